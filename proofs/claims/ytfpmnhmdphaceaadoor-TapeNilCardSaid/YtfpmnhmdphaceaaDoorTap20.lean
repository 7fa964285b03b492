/- Walks through the tape's functions. -/
import Derived.Test.YtfpmnhmdphaceaaDoorTap19
namespace Go.Proofs.YtfpmnhmdphaceaaDoor
open Go.EW
attribute [local irreducible] EW.W EW.L EW.fin block8 outB shaL
set_option linter.unusedVariables false
set_option linter.unusedSimpArgs false
attribute [local irreducible] crcN crcB crcL sealL openR sealR

def addRT (t : TS) (e : Evt) : Nat × TS := if (putEv e).2 ≠ 0 then ((putEv e).2, t) else if 4096 ≤ t.n then (151, t) else (0, addT t (putEv e).1)
theorem txs_segs {W : World} {S : List Seg} {txs : List Tx} (i : Nat) (hi : S[i]? = some (Segs (txs.map Tx.seg))) (hb : ∀ t ∈ txs, t.bs.length ≤ 100000) : TxsOk W S txs := fun t ht => by
  obtain ⟨j, hj, rfl⟩ := List.getElem_of_mem ht
  exact ⟨RdIn.segs i hi j (by rw [List.getElem?_map, List.getElem?_eq_getElem hj]; rfl), hb _ ht⟩
theorem putEv_len (e : Evt) : (putEv e).1.length ≤ 17000 := by
  unfold putEv
  split
  · exact Nat.zero_le _
  · split
    · exact Nat.zero_le _
    · split
      · exact Nat.zero_le _
      · split
        · exact Nat.zero_le _
        · rename_i h
          have h1 := pgo_len e (usesN e.k) 6
          have h2 := pdr_len e (usesN e.k)
          have h3 := pop_len e (usesN e.k) (fun hb => Nat.le_of_not_lt fun h2 => h (.inl ⟨hb, h2⟩))
          have h4 := pby_len e (usesN e.k) (fun hb => Nat.le_of_not_lt fun h2 => h (.inr ⟨hb, h2⟩))
          simp only [List.length_append]; omega
theorem TP.each {p : TP} {t : TS} (hp : p.ts = t.texts) (h : TOk t) : ∀ x ∈ p.txs, x.bs.length ≤ 100000 := fun x hx => by
  have h2 := h.each x.bs (by rw [← hp]; exact List.mem_map.2 ⟨x, hx, rfl⟩)
  omega
theorem TP.cnt {p : TP} {t : TS} (hp : p.ts = t.texts) : p.txs.length = t.texts.length := by
  rw [← hp]; unfold TP.ts; rw [List.length_map]
theorem TOk.size {t : TS} (h : TOk t) : sizeT t.texts ≤ 700000 := by
  have h1 := sizeT_le t.texts 20000 h.each
  have h2 := h.cnt
  have h3 : t.texts.length * (9 + 20000) ≤ 32 * (9 + 20000) := Nat.mul_le_mul_right _ h2
  omega
theorem TOk.flen {t : TS} (h : TOk t) : t.file.length ≤ 200000000 := by
  have h1 := h.file
  have h2 := h.places
  have h3 := h.n
  have h4 : 32768 * (t.places.length + 1) ≤ 32768 * 4097 := Nat.mul_le_mul_left _ (by omega)
  omega

theorem TLen_ok {W w : World} {F : List Seg} {b : Nat} {p : TP} {t : TS} (H : St W w (tapeL b p t F)) :
    Ok Tryd.prog 31 [.pointer (some ⟨b, 0, none⟩)].toArray w (fun r w' => r = .int .i64 (t.n : Int) ∧ St W w' (tapeL b p t F)) := by
  refine enter (n := 9) (rs := #[.tmp 2]) Tryd.func31 rfl rfl rfl rfl ?_
  refine w_seq ?_
  refine w_region ?_
  refine l_pint rfl rfl ?_
  refine l_nil ?_
  refine w_seq ?_
  refine w_seq ?_
  refine w_region ?_
  refine l_pptr rfl rfl ?_
  refine l_v rfl (q_eqlNilF rfl pt_61 rfl rfl) ?_
  refine l_nil ?_
  refine w_cond_f rfl ?_
  refine w_skip ?_
  refine w_seq ?_
  refine w_region ?_
  refine l_pptr rfl rfl ?_
  refine l_pptr rfl rfl ?_
  refine l_v rfl (q_fieldAddr rfl fo86_3 rfl) ?_
  refine l_v rfl (q_load1 rfl c1_3 rfl (by first | exact H.cell 0 rfl rfl)) ?_
  refine l_pint rfl rfl ?_
  refine l_nil ?_
  refine w_ret ?_
  refine fin1 (v := .int _ _) rfl ?_
  exact ⟨rfl, H⟩

theorem TAdd_ok {W w : World} {F : List Seg} (hN : NibOk W) {b : Nat} {p : TP} {t : TS} (H : St W w (tapeL b p t F)) (ht : TOk t) (hp : p.ts = t.texts) (e : Evt) (he : EvOk e) {a : Option Addr} {c : Nat} (hr : RdIn W F a (e.bs.map B)) :
    Ok Tryd.prog 29 [.pointer (some ⟨b, 0, none⟩), .agg (e.cells a c).toArray].toArray w (fun r w' => ∃ q, q.ts = (addRT t e).2.texts ∧ r = I ((addRT t e).1 : Int) ∧ St W w' (tapeL b q (addRT t e).2 F)) := by
  have hpl := putEv_len e
  have hfl := ht.flen
  have hpn := ht.places
  have htn := ht.n
  have hcn := TP.cnt hp
  refine enter (n := 84) (rs := #[.tmp 4]) Tryd.func29 rfl rfl rfl rfl ?_
  refine w_seq ?_
  refine w_region ?_
  refine b_box (cs := e.cells a c) rfl rfl rfl H (fun b3 w H => ?_)
  refine l_pint rfl rfl ?_
  refine l_nil ?_
  refine w_seq ?_
  refine w_seq ?_
  refine w_region ?_
  refine l_pptr rfl rfl ?_
  refine l_v rfl (q_eqlNilF rfl pt_61 rfl rfl) ?_
  refine l_nil ?_
  refine w_cond_f rfl ?_
  refine w_skip ?_
  refine w_seq ?_
  refine w_region ?_
  refine l_v rfl (q_loadN (vs := [_, _, _, _, _, _, _, _, _, _, _, _, _]) rfl ag_30 rfl rfl (by first | exact H.cells 0 rfl | exact H.cells 1 rfl | exact H.cells 2 rfl)) ?_
  refine b_call rfl cb_11 rfl (PutEvent_ok H e he (hr.up 6 rfl)) (fun v w hv => ?_)
  obtain ⟨a9, c9, rfl, H⟩ := hv
  refine l_ptup rfl rfl ?_
  refine l_pslice rfl rfl ?_
  refine l_pint rfl rfl ?_
  refine l_pslice rfl rfl ?_
  refine l_pint rfl rfl ?_
  refine l_nil ?_
  refine w_seq ?_
  refine w_seq ?_
  refine w_region ?_
  refine l_pint rfl rfl ?_
  refine l_pbool rfl rfl ?_
  refine l_nil ?_
  refine w_cond rfl (fun c1 => ?_) (fun c1 => ?_)
  · try simp only [sH] at c1
    refine w_seq ?_
    refine w_region ?_
    refine l_pint rfl rfl ?_
    refine l_pint rfl rfl ?_
    refine l_nil ?_
    refine w_ret ?_
    refine fin1 (v := .int _ _) rfl ?_
    have hx : addRT t e = ((putEv e).2, t) := if_pos (by omega)
    rw [hx]
    exact ⟨p, hp, rfl, H.drop1.drop1⟩
  · try simp only [sH] at c1
    have he0 : (putEv e).2 = 0 := by omega
    refine w_skip ?_
    refine w_seq ?_
    refine w_seq ?_
    refine w_region ?_
    refine l_pptr rfl rfl ?_
    refine l_pptr rfl rfl ?_
    refine l_v rfl (q_fieldAddr rfl fo86_3 rfl) ?_
    refine l_v rfl (q_load1 rfl c1_3 rfl (by first | exact H.cell 0 rfl rfl | exact H.cell 1 rfl rfl | exact H.cell 2 rfl rfl)) ?_
    refine l_pbool rfl rfl ?_
    refine l_nil ?_
    refine w_cond rfl (fun c2 => ?_) (fun c2 => ?_)
    · try simp only [sH] at c2
      refine w_seq ?_
      refine w_region ?_
      refine l_pint rfl rfl ?_
      refine l_nil ?_
      refine w_ret ?_
      refine fin1 (v := .int _ _) rfl ?_
      have hx : addRT t e = (151, t) := by unfold addRT; rw [if_neg (by omega), if_pos (by omega)]
      rw [hx]
      exact ⟨p, hp, rfl, H.drop1.drop1⟩
    · try simp only [sH] at c2
      have hn4 : ¬ 4096 ≤ t.n := by omega
      refine w_skip ?_
      refine w_cutG (G := TP × TS) [22, 23, 24, 25, 26, 27, 28, 29, 30, 31, 32, 33, 34, 35, 36, 37, 38, 39, 40, 41, 42, 43, 44, 45, 46, 47, 48, 49, 50, 51, 52, 53, 54, 55, 56, 57, 58, 59, 60, 61, 62, 63, 64, 65, 66, 67, 68, 69, 70, 71] (fun ⟨q, u⟩ => []) (fun ⟨q, u⟩ w => q.ts = u.texts ∧ u = (if t.texts.length > 0 ∧ fitsT t (putEv e).1 = false then flushT t else t) ∧ St W w (row 5 1 a9 (putEv e).1.length c9 ((putEv e).1.map B) :: blk b3 (e.cells a c) 30 :: tapeL b q u F)) (fun _ => rfl) ?_ ?_
      · refine w_seq ?_
        refine w_region ?_
        refine l_pptr rfl rfl ?_
        refine l_pptr rfl rfl ?_
        refine l_v rfl (q_fieldAddr rfl fo86_2 rfl) ?_
        refine l_v rfl (q_fieldAddr rfl fo84_2 rfl) ?_
        refine l_v rfl (q_load1 rfl c1_31 rfl (by first | exact H.cell 0 rfl rfl | exact H.cell 1 rfl rfl | exact H.cell 2 rfl rfl)) ?_
        refine l_v rfl (q_lenSlice rfl el_31 rfl) ?_
        refine l_pbool rfl rfl ?_
        refine l_pbool rfl rfl ?_
        refine l_split 29 rfl (fun h29 => ?_) (fun h29 => ?_)
        · try simp only [sH] at h29
          refine l_pptr rfl rfl ?_
          refine l_pptr rfl rfl ?_
          refine l_v rfl (q_fieldAddr rfl fo86_2 rfl) ?_
          refine l_pslice rfl rfl ?_
          refine b_call rfl cb_73 rfl (Ok_perm (pickP [2, 0, 1] (pre := [_, _, _]) rfl rfl) (fun H => fitsT_ok (n := (putEv e).1.length) H (by have := ht.first; have := ht.n; omega) (by rw [hp]; have := ht.size; omega) (by omega)) H) (fun v w hv => ?_)
          obtain ⟨rfl, H⟩ := hv
          refine l_pbool rfl rfl ?_
          refine l_pickT (v := .bool _) rfl rfl rfl ?_
          refine l_nil ?_
          refine w_cond rfl (fun c3 => ?_) (fun c3 => ?_)
          · try simp only [sH] at c3
            refine w_seq ?_
            refine w_drawT [11, 14] [4, 8] [(0, 0), (1, 0), (2, 0), (3, 0), (4, 1), (5, 0), (6, 0), (7, 0), (8, 1), (9, 0), (10, 2), (11, 2), (12, 0), (13, 0), (14, 2)] mixed (by kernel_rfl) (fun _ _ _ h => fin_panic h) H (fun H => ?_)
            refine r_pptr rfl rfl rfl ?_
            refine r_pptr rfl rfl rfl ?_
            refine r_pptr rfl rfl rfl ?_
            refine r_w rfl rfl (fun w => q_fieldAddr rfl fo86_1 rfl) ?_
            refine r_v rfl rfl (fun w hS => q_load1 rfl c1_66 rfl (by first | exact hS.cell 0 rfl rfl | exact hS.cell 1 rfl rfl | exact hS.cell 2 rfl rfl)) ?_
            refine r_pptr rfl rfl rfl ?_
            refine r_pptr rfl rfl rfl ?_
            refine r_w rfl rfl (fun w => q_fieldAddr rfl fo86_0 rfl) ?_
            refine r_v rfl rfl (fun w hS => q_load1 rfl c1_28 rfl (by first | exact hS.cell 0 rfl rfl | exact hS.cell 1 rfl rfl | exact hS.cell 2 rfl rfl)) ?_
            refine r_w rfl rfl (fun w => q_lenSlice rfl el_28 rfl) ?_
            refine r_do rfl ?_
            refine b_buildSlice (cs := [I (t.file.length : Int)]) rfl el_66 ze_3 rfl rfl rfl H (fun b47 w H => ?_)
            refine l_nil ⟨fun _ _ => (by first | exact H | exact H.drop1 | exact H.drop1.drop1 | exact H.drop1.drop1.drop1), ?_⟩
            refine r_do rfl ?_
            refine b_append rfl el_66 ze_3 rfl rfl rfl H 7 rfl (Rd.mk (H.cells0 0 rfl)) rfl (fun u hu => by obtain rfl := List.mem_singleton.1 hu; rfl) ⟨by omega, by simp only [maxLen]; omega⟩ (fun a48 c48 w H => ?_)
            have H := H.drop1
            refine l_nil ⟨(fun h => nomatch h), ?_⟩
            refine r_pptr rfl rfl rfl ?_
            refine r_w rfl rfl (fun w => q_fieldAddr rfl fo86_1 rfl) ?_
            refine r_do rfl ?_
            refine b_store (cs' := [.slice p.fa t.file.length p.fc, .slice a48 (t.places.length + 1) c48, .slice none 0 0, .int .i64 0, .int .i64 (t.first : Int), .slice p.ta p.txs.length p.tc, .int .i64 (sizeT p.ts : Int), .int .i64 (t.n : Int)]) rfl sz_66 rfl rfl rfl rfl rfl H 2 rfl rfl rfl (fun w H => ?_)
            refine l_nil ⟨(fun h => nomatch h), ?_⟩
            refine r_nil ?_
            refine w_seq ?_
            refine w_drawT [10, 13] [4, 8] [(0, 0), (1, 0), (2, 0), (3, 0), (4, 1), (5, 0), (6, 0), (7, 0), (8, 1), (9, 2), (10, 2), (11, 0), (12, 0), (13, 2)] mixed (by kernel_rfl) (fun _ _ _ h => fin_panic h) H (fun H => ?_)
            refine r_pptr rfl rfl rfl ?_
            refine r_pptr rfl rfl rfl ?_
            refine r_pptr rfl rfl rfl ?_
            refine r_w rfl rfl (fun w => q_fieldAddr rfl fo86_0 rfl) ?_
            refine r_v rfl rfl (fun w hS => q_load1 rfl c1_28 rfl (by first | exact hS.cell 0 rfl rfl | exact hS.cell 1 rfl rfl | exact hS.cell 2 rfl rfl)) ?_
            refine r_pptr rfl rfl rfl ?_
            refine r_pptr rfl rfl rfl ?_
            refine r_w rfl rfl (fun w => q_fieldAddr rfl fo86_2 rfl) ?_
            refine r_v rfl rfl (fun w hS => q_loadN (vs := [.slice none 0 0, .int .i64 0, .int .i64 (t.first : Int), .slice p.ta p.txs.length p.tc, .int .i64 (sizeT p.ts : Int)]) rfl ag_84 rfl rfl ((hS.cells 2 rfl).sub 2 5)) ?_
            refine r_do rfl ?_
            refine b_call rfl cb_67 rfl (frame_ok hN H (RdIn.row 3 rfl) (txs_segs 4 rfl (TP.each hp ht)) (by rw [TP.cnt hp]; have := ht.cnt; omega) (by have := ht.first; have := ht.n; omega) rfl) (fun v w hv => ?_)
            obtain ⟨a60, c60, rfl, H⟩ := hv
            refine l_nil ⟨fun _ _ => (by first | exact H | exact H.drop1 | exact H.drop1.drop1 | exact H.drop1.drop1.drop1), ?_⟩
            refine r_do rfl ?_
            refine b_append rfl el_28 ze_5 rfl rfl rfl H 6 rfl (ys := (sealR (chunkB t.first (p.txs.map Tx.bs))).1.map B) ((H.rowInv (i := 0) rfl).2.2.2.2) (by simp) (EW.oneB _) ⟨by have := seal_le (chunkB t.first (p.txs.map Tx.bs)); omega, by have := seal_le (chunkB t.first (p.txs.map Tx.bs)); simp only [maxLen]; omega⟩ (fun a61 c61 w H => ?_)
            have H := H.drop1
            refine l_nil ⟨(fun h => nomatch h), ?_⟩
            refine r_pptr rfl rfl rfl ?_
            refine r_w rfl rfl (fun w => q_fieldAddr rfl fo86_0 rfl) ?_
            refine r_do rfl ?_
            refine b_store (cs' := [.slice a61 (t.file.length + (sealR (chunkB t.first (p.txs.map Tx.bs))).1.length) c61, .slice a48 (t.places.length + 1) c48, .slice none 0 0, .int .i64 0, .int .i64 (t.first : Int), .slice p.ta p.txs.length p.tc, .int .i64 (sizeT p.ts : Int), .int .i64 (t.n : Int)]) rfl sz_28 rfl rfl rfl rfl rfl H 2 rfl rfl rfl (fun w H => ?_)
            refine l_nil ⟨(fun h => nomatch h), ?_⟩
            refine r_nil ?_
            refine w_region ?_
            refine l_pptr rfl rfl ?_
            refine l_pptr rfl rfl ?_
            refine l_pptr rfl rfl ?_
            refine l_v rfl (q_fieldAddr rfl fo86_3 rfl) ?_
            refine l_v rfl (q_load1 rfl c1_3 rfl (by first | exact H.cell 0 rfl rfl | exact H.cell 1 rfl rfl | exact H.cell 2 rfl rfl)) ?_
            refine l_v rfl (q_build (cs := [.slice none 0 0, .int .i64 0, .int .i64 (t.n : Int), .slice none 0 0, .int .i64 0]) rfl sp_84 rfl) ?_
            refine l_pptr rfl rfl ?_
            refine l_v rfl (q_fieldAddr rfl fo86_2 rfl) ?_
            refine b_store (cs' := [.slice a61 (t.file.length + (sealR (chunkB t.first (p.txs.map Tx.bs))).1.length) c61, .slice a48 (t.places.length + 1) c48, .slice none 0 0, .int .i64 0, .int .i64 (t.n : Int), .slice none 0 0, .int .i64 0, .int .i64 (t.n : Int)]) rfl sz_84 rfl rfl rfl rfl rfl H 2 rfl rfl rfl (fun w H => ?_)
            refine l_nil ?_
            refine ⟨by repeat' first | exact aM | exact aR | refine aI rfl ?_ | refine aU rfl ?_ | refine aL rfl ?_, ?_⟩
            have hft : fitsT t (putEv e).1 = fitsN t.first p.txs.length (sizeT p.ts) (putEv e).1.length := by unfold fitsT; rw [hcn, hp]
            first
              | exact ⟨(p, t), trivial, hp, (if_neg (fun h => by omega)).symm, H⟩
              | exact ⟨(p, t), trivial, hp, (if_neg (fun h => by rw [hft, c3] at h; exact absurd h.2 (by decide))).symm, H⟩
              | (refine ⟨(⟨a61, c61, a48, c48, none, 0, []⟩, flushT t), trivial, rfl, (if_pos ⟨by omega, by rw [hft, c3]⟩).symm, ?_⟩
                 have hF : (sealR (chunkB t.first (p.txs.map Tx.bs))).1 = frameC t.first t.texts := by unfold frameC; rw [← hp]; rfl
                 rw [hF] at H
                 have e1 : (t.file ++ frameC t.first t.texts).length = t.file.length + (frameC t.first t.texts).length := List.length_append
                 have e2 : (t.places ++ [t.file.length]).length = t.places.length + 1 := by simp
                 have H2 := St.newRow (T := 28) (sz := 1) (St.nilseg.2 ((H.erase 3).erase 3))
                 have H3 := St.pick [2, 3, 4, 0, 1, 5, 6] (pre := [_, _, _, _, _, _, _]) rfl H2 rfl
                 unfold tapeL tcells flushT
                 simp only []
                 rw [e1, e2, List.map_append]
                 unfold natsV at H3 ⊢
                 rw [List.map_append]
                 exact H3)
          · try simp only [sH] at c3
            refine w_skip ?_
            refine ⟨by repeat' first | exact aM | exact aR | refine aI rfl ?_ | refine aU rfl ?_ | refine aL rfl ?_, ?_⟩
            have hft : fitsT t (putEv e).1 = fitsN t.first p.txs.length (sizeT p.ts) (putEv e).1.length := by unfold fitsT; rw [hcn, hp]
            first
              | exact ⟨(p, t), trivial, hp, (if_neg (fun h => by omega)).symm, H⟩
              | exact ⟨(p, t), trivial, hp, (if_neg (fun h => by rw [hft, c3] at h; exact absurd h.2 (by decide))).symm, H⟩
              | (refine ⟨(⟨a61, c61, a48, c48, none, 0, []⟩, flushT t), trivial, rfl, (if_pos ⟨by omega, by rw [hft, c3]⟩).symm, ?_⟩
                 have hF : (sealR (chunkB t.first (p.txs.map Tx.bs))).1 = frameC t.first t.texts := by unfold frameC; rw [← hp]; rfl
                 rw [hF] at H
                 have e1 : (t.file ++ frameC t.first t.texts).length = t.file.length + (frameC t.first t.texts).length := List.length_append
                 have e2 : (t.places ++ [t.file.length]).length = t.places.length + 1 := by simp
                 have H2 := St.newRow (T := 28) (sz := 1) (St.nilseg.2 ((H.erase 3).erase 3))
                 have H3 := St.pick [2, 3, 4, 0, 1, 5, 6] (pre := [_, _, _, _, _, _, _]) rfl H2 rfl
                 unfold tapeL tcells flushT
                 simp only []
                 rw [e1, e2, List.map_append]
                 unfold natsV at H3 ⊢
                 rw [List.map_append]
                 exact H3)
        · try simp only [sH] at h29
          refine l_no rfl ?_
          refine l_no rfl ?_
          refine l_no rfl ?_
          refine l_no rfl ?_
          refine l_no rfl ?_
          refine l_no rfl ?_
          refine l_pickF (v := .bool _) rfl rfl rfl ?_
          refine l_nil ?_
          refine w_cond_f rfl ?_
          refine w_skip ?_
          refine ⟨by repeat' first | exact aM | exact aR | refine aI rfl ?_ | refine aU rfl ?_ | refine aL rfl ?_, ?_⟩
          have hft : fitsT t (putEv e).1 = fitsN t.first p.txs.length (sizeT p.ts) (putEv e).1.length := by unfold fitsT; rw [hcn, hp]
          first
            | exact ⟨(p, t), trivial, hp, (if_neg (fun h => by omega)).symm, H⟩
            | exact ⟨(p, t), trivial, hp, (if_neg (fun h => by rw [hft, c3] at h; exact absurd h.2 (by decide))).symm, H⟩
            | (refine ⟨(⟨a61, c61, a48, c48, none, 0, []⟩, flushT t), trivial, rfl, (if_pos ⟨by omega, by rw [hft, c3]⟩).symm, ?_⟩
               have hF : (sealR (chunkB t.first (p.txs.map Tx.bs))).1 = frameC t.first t.texts := by unfold frameC; rw [← hp]; rfl
               rw [hF] at H
               have e1 : (t.file ++ frameC t.first t.texts).length = t.file.length + (frameC t.first t.texts).length := List.length_append
               have e2 : (t.places ++ [t.file.length]).length = t.places.length + 1 := by simp
               have H2 := St.newRow (T := 28) (sz := 1) (St.nilseg.2 ((H.erase 3).erase 3))
               have H3 := St.pick [2, 3, 4, 0, 1, 5, 6] (pre := [_, _, _, _, _, _, _]) rfl H2 rfl
               unfold tapeL tcells flushT
               simp only []
               rw [e1, e2, List.map_append]
               unfold natsV at H3 ⊢
               rw [List.map_append]
               exact H3)
      · rintro ⟨q, u⟩ ρ1 w ⟨hq, hu, H⟩
        have huo : u.n = t.n ∧ q.txs.length ≤ 32 ∧ sizeT q.ts ≤ 700000 := by
          rw [TP.cnt hq, hq, hu]
          split
          · exact ⟨rfl, Nat.zero_le _, Nat.zero_le _⟩
          · exact ⟨rfl, ht.cnt, ht.size⟩
        obtain ⟨hun, huc, hus⟩ := huo
        have htn := ht.n
        refine w_seq ?_
        refine w_region ?_
        refine l_pptr rfl rfl ?_
        refine l_pptr rfl rfl ?_
        refine l_v rfl (q_fieldAddr rfl fo86_2 rfl) ?_
        refine l_pslice rfl rfl ?_
        refine b_call rfl cb_74 rfl (putT_ok (n := (putEv e).1.length) (k := q.txs.length) (St.pick [2, 3, 0, 1, 4, 5, 6] (pre := [_, _, _, _, _, _, _]) rfl H rfl) (by omega) (by omega) (by omega)) (fun v w hv => ?_)
        obtain ⟨rfl, ta', tc', H⟩ := hv
        refine l_nil ?_
        refine w_seq ?_
        refine w_region ?_
        refine l_pptr rfl rfl ?_
        refine l_pptr rfl rfl ?_
        refine l_v rfl (q_fieldAddr rfl fo86_3 rfl) ?_
        refine l_v rfl (q_load1 rfl c1_3 rfl (by first | exact H.cell 0 rfl rfl | exact H.cell 1 rfl rfl | exact H.cell 2 rfl rfl)) ?_
        first | refine l_v rfl (q_add rfl rfl rfl (by simp only [inK]; omega)) ?_ | refine l_pint rfl rfl ?_
        refine l_pptr rfl rfl ?_
        refine l_v rfl (q_fieldAddr rfl fo86_3 rfl) ?_
        refine b_store (cs' := [.slice q.fa u.file.length q.fc, .slice q.pa u.places.length q.pc, .slice none 0 0, .int .i64 0, .int .i64 (u.first : Int), .slice ta' (q.txs.length + 1) tc', .int .i64 ((sizeT q.ts + (szN (putEv e).1.length + (putEv e).1.length) : Nat) : Int), .int .i64 ((u.n : Int) + 1)]) rfl sz_3 rfl rfl rfl rfl rfl H 0 rfl rfl rfl (fun w H => ?_)
        refine l_nil ?_
        refine w_seq ?_
        refine w_region ?_
        refine l_pint rfl rfl ?_
        refine l_nil ?_
        refine w_ret ?_
        refine fin1 (v := .int _ _) rfl ?_
        have hx : addRT t e = (0, addT t (putEv e).1) := by unfold addRT; rw [if_neg (by omega), if_neg hn4]
        rw [hx]
        have hat : addT t (putEv e).1 = { u with texts := u.texts ++ [(putEv e).1], n := u.n + 1 } := by rw [hu]; rfl
        refine ⟨{ q with ta := ta', tc := tc', txs := q.txs ++ [⟨a9, c9, (putEv e).1⟩] }, ?_, rfl, ?_⟩
        · rw [hat, ← hq]; unfold TP.ts; rw [List.map_append]; rfl
        · rw [hat]
          have H2 := St.pick [4, 2, 0, 1, 5, 6] (pre := [_, _, _, _, _, _, _]) rfl H rfl
          have H3 := St.pick [1, 2, 0, 3, 4] (pre := [_, _, _, _, _]) rfl (St.snocseg.1 H2) rfl
          unfold tapeL tcells
          have e1 : (q.txs ++ [(⟨a9, c9, (putEv e).1⟩ : Tx)]).length = q.txs.length + 1 := by simp
          have e2 : sizeT (TP.ts { q with ta := ta', tc := tc', txs := q.txs ++ [(⟨a9, c9, (putEv e).1⟩ : Tx)] }) = sizeT q.ts + (szN (putEv e).1.length + (putEv e).1.length) := by
            unfold TP.ts; rw [List.map_append]; exact sizeT_snoc _ _
          rw [e1, e2, List.map_append, List.map_append]
          exact H3

end Go.Proofs.YtfpmnhmdphaceaaDoor
