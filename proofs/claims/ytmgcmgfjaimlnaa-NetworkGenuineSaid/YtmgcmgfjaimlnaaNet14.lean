/- The law NetworkApart answers true, of every list of packets and every script. -/
import Derived.Test.YtmgcmgfjaimlnaaNet13
namespace Go.Proofs.Ytmgcmgfjaimlnaa
open Go.EW
attribute [local irreducible] EW.W EW.L EW.fin
set_option linter.unusedVariables false
set_option linter.unusedSimpArgs false

/-- a call of a script -/
structure OpS where
  kind : Int
  k : Int
  at_ : Int
  mask : UInt8
  pk : Pk
  mine : Bool
def OpS.cells (o : OpS) : List Value := [.int .i64 o.kind, .int .i64 o.k, .int .i64 o.at_, B o.mask, .int .i64 o.pk.fr, .int .i64 o.pk.to, .slice o.pk.a o.pk.n o.pk.cap, .bool o.mine]
def opsL (l : List OpS) : List Value := l.flatMap OpS.cells
theorem flat_at {α : Type} {f : α → List Value} {sz : Nat} (hf : ∀ x, (f x).length = sz) : ∀ {l : List α} {k : Nat} {p : α}, l[k]? = some p → ((l.flatMap f).drop (k * sz)).take sz = f p
  | q :: l, 0, p, h => by
    obtain rfl : q = p := by simpa using h
    rw [List.flatMap_cons, Nat.zero_mul, List.drop_zero]
    have := hf q
    rw [← this, List.take_left]
  | q :: l, k+1, p, h => by
    have e : ((q :: l).flatMap f).drop ((k + 1) * sz) = (l.flatMap f).drop (k * sz) := by
      rw [List.flatMap_cons, List.drop_append, hf q, List.drop_eq_nil_of_le (by rw [hf q, Nat.add_mul]; omega), List.nil_append]
      congr 1; rw [Nat.add_mul]; omega
    rw [e]; exact flat_at hf (by simpa using h)
  | [], k, p, h => by simp at h
theorem flat_cells {α : Type} {f : α → List Value} {sz : Nat} {w : World} {a : Option Addr} {l : List α} {k : Nat} {p : α} (hf : ∀ x, (f x).length = sz) (hs : 0 < sz) (h : Rd w a (l.flatMap f)) (hk : l[k]? = some p) : ∃ b o, a = some ⟨b, o, none⟩ ∧ Cells w b (o + k * sz) (f p) := by
  have h2 := flat_at hf hk
  obtain ⟨v, hv⟩ : ∃ v, (f p)[0]? = some v := ⟨_, List.getElem?_eq_getElem (by rw [hf p]; exact hs)⟩
  have h0 : (l.flatMap f)[k * sz]? = some v := by
    have := congrArg (fun x => x[0]?) h2
    simp only [List.getElem?_take, List.getElem?_drop, hs, if_true, Nat.add_zero, hv] at this
    exact this
  obtain ⟨b, o, rfl, _⟩ := h _ _ h0
  refine ⟨b, o, rfl, ?_⟩
  have := h.cells.sub (k * sz) sz
  rwa [h2] at this
theorem op_cells {w : World} {a : Option Addr} {l : List OpS} {k : Nat} {p : OpS} (h : Rd w a (opsL l)) (hk : l[k]? = some p) : ∃ b o, a = some ⟨b, o, none⟩ ∧ Cells w b (o + k * 8) p.cells :=
  flat_cells (fun _ => rfl) (by omega) h hk
def OpGood (W : World) (l : List OpS) : Prop := ∀ o ∈ l, RdIn W [] o.pk.a (o.pk.bs.map B) ∧ o.pk.bs.length = o.pk.n ∧ o.pk.n ≤ 140737488355328
theorem NetOk.mono {st : NetS} {i i' : Nat} (h : NetOk st i) (hi : i ≤ i') : NetOk st i' := ⟨h.cl, h.nd, h.pool, h.record, Nat.le_trans h.pl hi, Nat.le_trans h.rl hi, fun p hp => ⟨(h.few p hp).1, by have := (h.few p hp).2; omega⟩⟩
theorem NetOk.clear {st : NetS} {i : Nat} (h : NetOk st i) : NetOk (clearS st) i := ⟨h.cl, h.nd, fun p hp => by simp [clearS] at hp, h.record, by simp [clearS], h.rl, h.few⟩
theorem NetOk.swap {st : NetS} {i : Nat} (h : NetOk st i) (a b : Int) : NetOk (swapS st a b) i := by
  unfold swapS; split
  · refine ⟨h.cl, h.nd, fun p hp => h.pool p ((swapL_perm _ _ _).mem_iff.1 hp), h.record, ?_, h.rl, h.few⟩
    show (swapL _ _ _).length ≤ i
    rw [swapL_length]; exact h.pl
  · exact h
theorem NetOk.turn {st : NetS} {i : Nat} (h : NetOk st i) (a b : Int) (m : UInt8) : NetOk (turnS st a b m) i := by
  unfold turnS; split
  · split
    · refine ⟨h.cl, h.nd, ?_, h.record, ?_, h.rl, h.few⟩
      · intro p hp
        unfold turnL at hp
        simp only at hp
        split at hp
        · rename_i p0 hp0
          rcases List.mem_or_eq_of_mem_set hp with hp | rfl
          · exact h.pool p hp
          · exact h.pool p0 (List.mem_of_getElem? hp0)
        · exact h.pool p hp
      · show (turnL _ _ _ _).length ≤ i
        rw [turnL_length]; exact h.pl
    · exact h
  · exact h
theorem swapNet {W w : World} {b b' : Nat} {st st' : NetS} {F : List Seg} (H : St W w (netL b st (netL b' st' F))) : St W w (netL b' st' (netL b st F)) :=
  sinkX (b := b') (st := st') (F := F) [_, _, _, _, _, _, _] H

theorem NetworkApart_ok {W w : World} {F : List Seg} (H : St W w F) {a : Option Addr} {n cap : Nat} {l : List Pk} (hr : RdIn W F a (pks l)) (hln : l.length = n) (hg : Good W F l) (hn : n * 40 ≤ 140737488351232) {oa : Option Addr} {tn oc : Nat} {os : List OpS} (hro : RdIn W [] oa (opsL os)) (hon : os.length = tn) (hgo : OpGood W os) (htn : tn * 80 ≤ 140737488351232) :
    Ok Try.prog 4 [.slice a n cap, .slice oa tn oc].toArray w (fun v w' => v = .bool true ∧ ∃ S, St W w' S) := by
  refine enter (n := 93) (rs := #[.tmp 4]) Try.func4 rfl rfl rfl rfl ?_
  refine w_seq ?_
  refine w_region ?_
  refine l_pbool rfl rfl ?_
  refine l_nil ?_
  refine w_seq ?_
  refine w_region ?_
  refine l_pslice rfl rfl ?_
  refine b_call rfl cb_10 rfl (filled_ok H hr hln hg hn) (fun v w hv => ?_)
  obtain ⟨bn, stn, rfl, hokn, hpln, H⟩ := hv
  refine l_pptr rfl rfl ?_
  refine l_nil ?_
  refine w_seq ?_
  refine w_region ?_
  refine l_pslice rfl rfl ?_
  refine b_call rfl cb_10 rfl (filled_ok H (hr.up 7 rfl) hln (hg.up 7 rfl) hn) (fun v w hv => ?_)
  obtain ⟨bm, stm0, rfl, hokm0, hplm, H⟩ := hv
  refine l_pptr rfl rfl ?_
  refine l_nil ?_
  refine w_seq ?_
  refine w_seq ?_
  refine w_region ?_
  refine l_pptr rfl rfl ?_
  refine l_v rfl (q_eqlNilF rfl pt_24 rfl rfl) ?_
  refine l_pbool rfl rfl ?_
  refine l_pptr rfl rfl ?_
  refine l_v rfl (q_eqlNilF rfl pt_24 rfl rfl) ?_
  refine l_pickF (v := .bool _) rfl rfl rfl ?_
  refine l_pbool rfl rfl ?_
  refine b_call rfl cb_11 rfl (works_ok H) (fun v w hv => ?_)
  obtain ⟨rfl, H⟩ := hv
  have H := swapNet H
  refine l_pbool rfl rfl ?_
  refine l_pickF (v := .bool _) rfl rfl rfl ?_
  refine l_nil ?_
  refine w_cond rfl (fun c1 => ?_) (fun c1 => ?_)
  · try simp only [decide_eq_true_eq, decide_eq_false_iff_not, Bool.not_eq_true', Bool.not_eq_false', beq_iff_eq, beq_eq_false_iff_ne, bne_iff_ne, bne_eq_false_iff_eq, ne_eq, Int.not_lt, Int.not_le] at c1
    refine w_seq ?_
    refine w_region ?_
    refine l_pbool rfl rfl ?_
    refine l_nil ?_
    refine w_ret ?_
    refine fin1 (v := .bool _) rfl ?_
    exact absurd c1 (by decide)
  · try simp only [decide_eq_true_eq, decide_eq_false_iff_not, Bool.not_eq_true', Bool.not_eq_false', beq_iff_eq, beq_eq_false_iff_ne, bne_iff_ne, bne_eq_false_iff_eq, ne_eq, Int.not_lt, Int.not_le] at c1
    refine w_skip ?_
    refine w_seq ?_
    refine w_region ?_
    refine l_pptr rfl rfl ?_
    refine b_call rfl cb_12 rfl (pool_ok H hokn.fit (by rw [hpln]; omega)) (fun v w hv => ?_)
    obtain ⟨a0, c0, l0, rfl, hcon0, H⟩ := hv
    have hg0 := good_of H 8 2 rfl rfl hcon0 hokn.fit.pool
    have hl0 : l0.length = stn.pool.length := by simpa using congrArg List.length hcon0
    refine l_pslice rfl rfl ?_
    refine l_nil ?_
    refine w_seq ?_
    refine w_region ?_
    refine l_pptr rfl rfl ?_
    refine b_call rfl cb_18 rfl (Sent_ok (i := 0) H rfl rfl) (fun v w hv => ?_)
    obtain ⟨rfl, rfl⟩ := hv
    refine l_pint rfl rfl ?_
    refine l_nil ?_
    refine w_seq ?_
    refine w_seq ?_
    refine w_region ?_
    refine l_pint rfl rfl ?_
    refine l_nil ?_
    refine w_block ?_
    refine w_loopG (G := Nat × NetS) [9, 10, 29, 30, 31, 32, 33, 34, 35, 36, 37, 38, 39, 40, 41, 42, 43, 44, 45, 46, 47, 48, 49, 50, 51, 52, 53, 54, 55, 56, 57, 58, 59, 60, 61, 62, 63, 64, 65, 66, 67, 68, 69, 70, 71, 72, 73, 74, 75, 76, 77, 78, 79, 80, 81, 82] (fun ⟨t, stm⟩ => [(9, .int .i64 ((t : Nat) : Int))]) (fun m ⟨t, stm⟩ w => m + t = tn ∧ NetOk stm (n + t) ∧ St W w (netL bm stm (netL bn stn (row 31 3 a0 stn.pool.length c0 (pks l0) :: Segs (l0.map Pk.own) :: F)))) (fun _ => rfl) ?_ ?_
    · exact ⟨tn, (0, stm0), ⟨rfl, trivial⟩, by omega, hokm0, H.pick [9, 10, 11, 12, 13, 14, 15, 0, 1, 2, 3, 4, 5, 6, 7, 8] (pre := [_, _, _, _, _, _, _, _, _, _, _, _, _, _, _, _]) rfl rfl⟩
    · rintro m ⟨t, stm⟩ ρ1 w ⟨hmt, hok, H⟩
      refine w_seq ?_
      refine w_seq ?_
      refine w_region ?_
      refine l_pint rfl rfl ?_
      refine l_pslice rfl rfl ?_
      refine l_v rfl (q_lenSlice rfl el_39 rfl) ?_
      refine l_pbool rfl rfl ?_
      refine l_nil ?_
      refine w_cond rfl (fun c2 => ?_) (fun c2 => ?_)
      · try simp only [decide_eq_true_eq, decide_eq_false_iff_not, Bool.not_eq_true', Bool.not_eq_false', beq_iff_eq, beq_eq_false_iff_ne, bne_iff_ne, bne_eq_false_iff_eq, ne_eq, Int.not_lt, Int.not_le] at c2
        obtain ⟨o, ho⟩ : ∃ o, os[t]? = some o := ⟨_, List.getElem?_eq_getElem (by omega)⟩
        obtain ⟨b0, o0, hoa, hoc⟩ := op_cells ((RdIn.ro hro).use H 0 rfl) ho
        have hop := hgo o (List.mem_of_getElem? ho)
        refine w_skip ?_
        refine w_seq ?_
        refine w_block ?_
        refine w_seq ?_
        refine w_region ?_
        refine l_pslice rfl rfl ?_
        refine l_pint rfl rfl ?_
        refine l_v rfl (q_indexSliceA rfl el_39 rfl hoa rfl (by omega)) ?_
        refine l_v rfl (q_loadN (vs := [_, _, _, _, _, _, _, _]) rfl ag_41 rfl rfl hoc) ?_
        refine b_alloc rfl ze_41 rfl H (fun b10 w H => ?_)
        first | refine b_store (cs' := [_, _, _, _, _, _, _, _]) rfl sz_41 rfl rfl rfl rfl rfl H 0 rfl rfl rfl (fun w H => ?_) | refine b_store (cs' := [_, _, _, _, _, _, _, _]) rfl sz_41 rfl rfl rfl rfl rfl H 1 rfl rfl rfl (fun w H => ?_) | refine b_store (cs' := [_, _, _, _, _, _, _, _]) rfl sz_41 rfl rfl rfl rfl rfl H 2 rfl rfl rfl (fun w H => ?_)
        refine l_nil ?_
        refine w_seq ?_
        refine w_region ?_
        refine l_v rfl (q_fieldAddr rfl fo41_0 rfl) ?_
        refine l_v rfl (q_load1 rfl c1_3 rfl (by first | exact H.cell 0 rfl rfl | exact H.cell 1 rfl rfl | exact H.cell 2 rfl rfl)) ?_
        refine l_nil ?_
        refine w_block ?_
        refine w_cutG (G := Unit) [41, 42, 43] (fun _ => [(41, .bool (decide (o.kind = 0 ∨ o.kind = 1)))]) (fun _ w => St W w (blk b10 o.cells 41 :: netL bm stm (netL bn stn (row 31 3 a0 stn.pool.length c0 (pks l0) :: Segs (l0.map Pk.own) :: F)))) (fun _ => rfl) ?_ ?_
        · refine w_seq ?_
          refine w_region ?_
          refine l_pbool rfl rfl ?_
          refine l_pbool rfl rfl ?_
          refine l_nil ?_
          refine w_cond rfl (fun c3 => ?_) (fun c3 => ?_)
          · try simp only [decide_eq_true_eq, decide_eq_false_iff_not, Bool.not_eq_true', Bool.not_eq_false', beq_iff_eq, beq_eq_false_iff_ne, bne_iff_ne, bne_eq_false_iff_eq, ne_eq, Int.not_lt, Int.not_le] at c3
            refine w_skip ?_
            refine ⟨by repeat' first | exact Agr.mix _ _ _ | exact Agr.refl _ _ | refine Agr.inner rfl ?_ | refine Agr.upd rfl ?_ | refine Agr.updL' rfl ?_, ?_⟩
            exact ⟨(), ⟨by exact congrArg Value.bool (by simp [c3]), trivial⟩, H⟩
          · try simp only [decide_eq_true_eq, decide_eq_false_iff_not, Bool.not_eq_true', Bool.not_eq_false', beq_iff_eq, beq_eq_false_iff_ne, bne_iff_ne, bne_eq_false_iff_eq, ne_eq, Int.not_lt, Int.not_le] at c3
            refine w_region ?_
            refine l_pbool rfl rfl ?_
            refine l_pbool rfl rfl ?_
            refine l_nil ?_
            refine ⟨by repeat' first | exact Agr.mix _ _ _ | exact Agr.refl _ _ | refine Agr.inner rfl ?_ | refine Agr.upd rfl ?_ | refine Agr.updL' rfl ?_, ?_⟩
            exact ⟨(), ⟨by exact congrArg Value.bool (by rw [Bool.eq_iff_iff]; simp [c3]), trivial⟩, H⟩
        · rintro _ ρ1 w H
          refine w_cond rfl (fun c4 => ?_) (fun c4 => ?_)
          · try simp only [decide_eq_true_eq, decide_eq_false_iff_not, Bool.not_eq_true', Bool.not_eq_false', beq_iff_eq, beq_eq_false_iff_ne, bne_iff_ne, bne_eq_false_iff_eq, ne_eq, Int.not_lt, Int.not_le] at c4
            refine w_region ?_
            refine l_pptr rfl rfl ?_
            refine l_v rfl (q_fieldAddr rfl fo41_4 rfl) ?_
            refine l_v rfl (q_loadN (vs := [_, _, _]) rfl ag_31 rfl rfl ((H.cells 0 rfl).sub 4 3)) ?_
            refine b_call rfl cb_20 rfl (fit_ok H o.pk.fr o.pk.to (RdIn.ro hop.1) hop.2.1 hop.2.2) (fun v w hv => ?_)
            obtain ⟨q, rfl, hqf, hqt, hqn, hql, _, H⟩ := hv
            refine b_call rfl cb_19 rfl (Send_ok (sinkX [_, _] H) hok.fit hok.few (by omega) q.fr q.to (RdIn.row 0 rfl) hql (by have := hok.pl; omega) (by have := hok.rl; omega)) (fun v w hv => ?_)
            obtain ⟨rfl, hv⟩ := hv
            have he : layE stm q.fr q.to q.n true = 0 := layE_0 (fun h => h.2 (hok.addr hqf)) (hok.addr hqt) (by omega)
            obtain ⟨_, a', pa, pcap, a'', ra, rcap, H⟩ := hv.resolve_left (fun h => h.1 he)
            have H' := (liftX [_, _] H).dropN 2
            have hok' := hok.send (fr := q.fr) q.bs a' pa pcap a'' ra rcap hqt hqn
            refine l_nil ?_
            refine w_region ?_
            refine l_pint rfl rfl ?_
            first | refine l_v rfl (q_add rfl rfl rfl (by simp only [inK]; omega)) ?_ | refine l_pint rfl rfl ?_
            refine l_pint rfl rfl ?_
            refine l_nil ?_
            refine ⟨by repeat' first | exact Agr.mix _ _ _ | exact Agr.refl _ _ | refine Agr.inner rfl ?_ | refine Agr.upd rfl ?_ | refine Agr.updL' rfl ?_, ?_⟩
            exact ⟨m - 1, (t + 1, _), by omega, ⟨by exact congrArg (Value.int IntKind.i64) (Int.natCast_succ t).symm, trivial⟩, by omega, hok', H'⟩
          · try simp only [decide_eq_true_eq, decide_eq_false_iff_not, Bool.not_eq_true', Bool.not_eq_false', beq_iff_eq, beq_eq_false_iff_ne, bne_iff_ne, bne_eq_false_iff_eq, ne_eq, Int.not_lt, Int.not_le] at c4
            refine w_seq ?_
            refine w_region ?_
            refine l_pbool rfl rfl ?_
            refine l_pbool rfl rfl ?_
            refine l_nil ?_
            refine w_cond rfl (fun c5 => ?_) (fun c5 => ?_)
            · try simp only [decide_eq_true_eq, decide_eq_false_iff_not, Bool.not_eq_true', Bool.not_eq_false', beq_iff_eq, beq_eq_false_iff_ne, bne_iff_ne, bne_eq_false_iff_eq, ne_eq, Int.not_lt, Int.not_le] at c5
              refine w_region ?_
              refine l_pptr rfl rfl ?_
              refine l_v rfl (q_fieldAddr rfl fo41_1 rfl) ?_
              refine l_v rfl (q_load1 rfl c1_3 rfl (by first | exact H.cell 0 rfl rfl | exact H.cell 1 rfl rfl | exact H.cell 2 rfl rfl)) ?_
              refine b_call rfl cb_14 rfl (Take_ok (sinkX [_] H) hok.fit o.k) (fun v w hv => ?_)
              obtain ⟨q, e, rfl, hat, H⟩ := hv
              have H' := (liftX [_] (H.drop1)).dropN 1
              have hok' := (hok.take o.k).mono (Nat.le_succ _)
              refine l_nil ?_
              refine w_region ?_
              refine l_pint rfl rfl ?_
              first | refine l_v rfl (q_add rfl rfl rfl (by simp only [inK]; omega)) ?_ | refine l_pint rfl rfl ?_
              refine l_pint rfl rfl ?_
              refine l_nil ?_
              refine ⟨by repeat' first | exact Agr.mix _ _ _ | exact Agr.refl _ _ | refine Agr.inner rfl ?_ | refine Agr.upd rfl ?_ | refine Agr.updL' rfl ?_, ?_⟩
              exact ⟨m - 1, (t + 1, _), by omega, ⟨by exact congrArg (Value.int IntKind.i64) (Int.natCast_succ t).symm, trivial⟩, by omega, hok', H'⟩
            · try simp only [decide_eq_true_eq, decide_eq_false_iff_not, Bool.not_eq_true', Bool.not_eq_false', beq_iff_eq, beq_eq_false_iff_ne, bne_iff_ne, bne_eq_false_iff_eq, ne_eq, Int.not_lt, Int.not_le] at c5
              refine w_seq ?_
              refine w_region ?_
              refine l_pbool rfl rfl ?_
              refine l_pbool rfl rfl ?_
              refine l_nil ?_
              refine w_cond rfl (fun c6 => ?_) (fun c6 => ?_)
              · try simp only [decide_eq_true_eq, decide_eq_false_iff_not, Bool.not_eq_true', Bool.not_eq_false', beq_iff_eq, beq_eq_false_iff_ne, bne_iff_ne, bne_eq_false_iff_eq, ne_eq, Int.not_lt, Int.not_le] at c6
                refine w_region ?_
                refine l_pptr rfl rfl ?_
                refine l_v rfl (q_fieldAddr rfl fo41_1 rfl) ?_
                refine l_v rfl (q_load1 rfl c1_3 rfl (by first | exact H.cell 0 rfl rfl | exact H.cell 1 rfl rfl | exact H.cell 2 rfl rfl)) ?_
                refine b_call rfl cb_21 rfl (Drop_ok (sinkX [_] H) hok.fit o.k) (fun v w hv => ?_)
                obtain ⟨q, e, rfl, hat, H⟩ := hv
                have H' := (liftX [_] H).dropN 1
                have hok' := (hok.take o.k).mono (Nat.le_succ _)
                refine l_nil ?_
                refine w_region ?_
                refine l_pint rfl rfl ?_
                first | refine l_v rfl (q_add rfl rfl rfl (by simp only [inK]; omega)) ?_ | refine l_pint rfl rfl ?_
                refine l_pint rfl rfl ?_
                refine l_nil ?_
                refine ⟨by repeat' first | exact Agr.mix _ _ _ | exact Agr.refl _ _ | refine Agr.inner rfl ?_ | refine Agr.upd rfl ?_ | refine Agr.updL' rfl ?_, ?_⟩
                exact ⟨m - 1, (t + 1, _), by omega, ⟨by exact congrArg (Value.int IntKind.i64) (Int.natCast_succ t).symm, trivial⟩, by omega, hok', H'⟩
              · try simp only [decide_eq_true_eq, decide_eq_false_iff_not, Bool.not_eq_true', Bool.not_eq_false', beq_iff_eq, beq_eq_false_iff_ne, bne_iff_ne, bne_eq_false_iff_eq, ne_eq, Int.not_lt, Int.not_le] at c6
                refine w_seq ?_
                refine w_region ?_
                refine l_pbool rfl rfl ?_
                refine l_pbool rfl rfl ?_
                refine l_nil ?_
                refine w_cond rfl (fun c7 => ?_) (fun c7 => ?_)
                · try simp only [decide_eq_true_eq, decide_eq_false_iff_not, Bool.not_eq_true', Bool.not_eq_false', beq_iff_eq, beq_eq_false_iff_ne, bne_iff_ne, bne_eq_false_iff_eq, ne_eq, Int.not_lt, Int.not_le] at c7
                  refine w_region ?_
                  refine l_pptr rfl rfl ?_
                  refine l_v rfl (q_fieldAddr rfl fo41_1 rfl) ?_
                  refine l_v rfl (q_load1 rfl c1_3 rfl (by first | exact H.cell 0 rfl rfl | exact H.cell 1 rfl rfl | exact H.cell 2 rfl rfl)) ?_
                  refine l_v rfl (q_fieldAddr rfl fo41_2 rfl) ?_
                  refine l_v rfl (q_load1 rfl c1_3 rfl (by first | exact H.cell 0 rfl rfl | exact H.cell 1 rfl rfl | exact H.cell 2 rfl rfl)) ?_
                  refine l_v rfl (q_fieldAddr rfl fo41_3 rfl) ?_
                  refine l_v rfl (q_load1 rfl c1_5 rfl (by first | exact H.cell 0 rfl rfl | exact H.cell 1 rfl rfl | exact H.cell 2 rfl rfl)) ?_
                  refine b_call rfl cb_22 rfl (Turn_ok (sinkX [_] H) o.k o.at_ o.mask) (fun v w hv => ?_)
                  obtain ⟨rfl, H⟩ := hv
                  have H' := (liftX [_] H).dropN 1
                  have hok' := (hok.turn o.k o.at_ o.mask).mono (Nat.le_succ _)
                  refine l_nil ?_
                  refine w_region ?_
                  refine l_pint rfl rfl ?_
                  first | refine l_v rfl (q_add rfl rfl rfl (by simp only [inK]; omega)) ?_ | refine l_pint rfl rfl ?_
                  refine l_pint rfl rfl ?_
                  refine l_nil ?_
                  refine ⟨by repeat' first | exact Agr.mix _ _ _ | exact Agr.refl _ _ | refine Agr.inner rfl ?_ | refine Agr.upd rfl ?_ | refine Agr.updL' rfl ?_, ?_⟩
                  exact ⟨m - 1, (t + 1, _), by omega, ⟨by exact congrArg (Value.int IntKind.i64) (Int.natCast_succ t).symm, trivial⟩, by omega, hok', H'⟩
                · try simp only [decide_eq_true_eq, decide_eq_false_iff_not, Bool.not_eq_true', Bool.not_eq_false', beq_iff_eq, beq_eq_false_iff_ne, bne_iff_ne, bne_eq_false_iff_eq, ne_eq, Int.not_lt, Int.not_le] at c7
                  refine w_seq ?_
                  refine w_region ?_
                  refine l_pbool rfl rfl ?_
                  refine l_pbool rfl rfl ?_
                  refine l_nil ?_
                  refine w_cond rfl (fun c8 => ?_) (fun c8 => ?_)
                  · try simp only [decide_eq_true_eq, decide_eq_false_iff_not, Bool.not_eq_true', Bool.not_eq_false', beq_iff_eq, beq_eq_false_iff_ne, bne_iff_ne, bne_eq_false_iff_eq, ne_eq, Int.not_lt, Int.not_le] at c8
                    refine w_region ?_
                    refine l_pptr rfl rfl ?_
                    refine l_v rfl (q_fieldAddr rfl fo41_1 rfl) ?_
                    refine l_v rfl (q_load1 rfl c1_3 rfl (by first | exact H.cell 0 rfl rfl | exact H.cell 1 rfl rfl | exact H.cell 2 rfl rfl)) ?_
                    refine l_v rfl (q_fieldAddr rfl fo41_2 rfl) ?_
                    refine l_v rfl (q_load1 rfl c1_3 rfl (by first | exact H.cell 0 rfl rfl | exact H.cell 1 rfl rfl | exact H.cell 2 rfl rfl)) ?_
                    refine b_call rfl cb_23 rfl (Swap_ok (sinkX [_] H) o.k o.at_) (fun v w hv => ?_)
                    obtain ⟨rfl, H⟩ := hv
                    have H' := (liftX [_] H).dropN 1
                    have hok' := (hok.swap o.k o.at_).mono (Nat.le_succ _)
                    refine l_nil ?_
                    refine w_region ?_
                    refine l_pint rfl rfl ?_
                    first | refine l_v rfl (q_add rfl rfl rfl (by simp only [inK]; omega)) ?_ | refine l_pint rfl rfl ?_
                    refine l_pint rfl rfl ?_
                    refine l_nil ?_
                    refine ⟨by repeat' first | exact Agr.mix _ _ _ | exact Agr.refl _ _ | refine Agr.inner rfl ?_ | refine Agr.upd rfl ?_ | refine Agr.updL' rfl ?_, ?_⟩
                    exact ⟨m - 1, (t + 1, _), by omega, ⟨by exact congrArg (Value.int IntKind.i64) (Int.natCast_succ t).symm, trivial⟩, by omega, hok', H'⟩
                  · try simp only [decide_eq_true_eq, decide_eq_false_iff_not, Bool.not_eq_true', Bool.not_eq_false', beq_iff_eq, beq_eq_false_iff_ne, bne_iff_ne, bne_eq_false_iff_eq, ne_eq, Int.not_lt, Int.not_le] at c8
                    refine w_seq ?_
                    refine w_region ?_
                    refine l_pbool rfl rfl ?_
                    refine l_pbool rfl rfl ?_
                    refine l_nil ?_
                    refine w_cond rfl (fun c9 => ?_) (fun c9 => ?_)
                    · try simp only [decide_eq_true_eq, decide_eq_false_iff_not, Bool.not_eq_true', Bool.not_eq_false', beq_iff_eq, beq_eq_false_iff_ne, bne_iff_ne, bne_eq_false_iff_eq, ne_eq, Int.not_lt, Int.not_le] at c9
                      refine w_region ?_
                      refine l_pptr rfl rfl ?_
                      refine b_call rfl cb_24 rfl (Clear_ok (sinkX [_] H)) (fun v w hv => ?_)
                      obtain ⟨rfl, H⟩ := hv
                      have H' := (liftX [_] H).dropN 1
                      have hok' := hok.clear.mono (Nat.le_succ _)
                      refine l_nil ?_
                      refine w_region ?_
                      refine l_pint rfl rfl ?_
                      first | refine l_v rfl (q_add rfl rfl rfl (by simp only [inK]; omega)) ?_ | refine l_pint rfl rfl ?_
                      refine l_pint rfl rfl ?_
                      refine l_nil ?_
                      refine ⟨by repeat' first | exact Agr.mix _ _ _ | exact Agr.refl _ _ | refine Agr.inner rfl ?_ | refine Agr.upd rfl ?_ | refine Agr.updL' rfl ?_, ?_⟩
                      exact ⟨m - 1, (t + 1, _), by omega, ⟨by exact congrArg (Value.int IntKind.i64) (Int.natCast_succ t).symm, trivial⟩, by omega, hok', H'⟩
                    · try simp only [decide_eq_true_eq, decide_eq_false_iff_not, Bool.not_eq_true', Bool.not_eq_false', beq_iff_eq, beq_eq_false_iff_ne, bne_iff_ne, bne_eq_false_iff_eq, ne_eq, Int.not_lt, Int.not_le] at c9
                      have H' := H.drop1
                      have hok' := hok.mono (Nat.le_succ _)
                      refine w_skip ?_
                      refine w_region ?_
                      refine l_pint rfl rfl ?_
                      first | refine l_v rfl (q_add rfl rfl rfl (by simp only [inK]; omega)) ?_ | refine l_pint rfl rfl ?_
                      refine l_pint rfl rfl ?_
                      refine l_nil ?_
                      refine ⟨by repeat' first | exact Agr.mix _ _ _ | exact Agr.refl _ _ | refine Agr.inner rfl ?_ | refine Agr.upd rfl ?_ | refine Agr.updL' rfl ?_, ?_⟩
                      exact ⟨m - 1, (t + 1, _), by omega, ⟨by exact congrArg (Value.int IntKind.i64) (Int.natCast_succ t).symm, trivial⟩, by omega, hok', H'⟩
      · try simp only [decide_eq_true_eq, decide_eq_false_iff_not, Bool.not_eq_true', Bool.not_eq_false', beq_iff_eq, beq_eq_false_iff_ne, bne_iff_ne, bne_eq_false_iff_eq, ne_eq, Int.not_lt, Int.not_le] at c2
        refine w_exit ?_
        refine w_seq ?_
        refine w_region ?_
        refine l_pptr rfl rfl ?_
        refine b_call rfl cb_12 rfl (pool_ok (swapNet H) hokn.fit (by rw [hpln]; omega)) (fun v w hv => ?_)
        obtain ⟨a1, c1', l1, rfl, hcon1, H⟩ := hv
        have hg1 := good_of H 8 2 rfl rfl hcon1 hokn.fit.pool
        have hl1 : l1.length = stn.pool.length := by simpa using congrArg List.length hcon1
        refine l_pslice rfl rfl ?_
        refine b_call rfl cb_25 rfl (SamePackets_ok H (RdIn.row (xs := pks l1) 7 rfl) hl1 (good_segs 8 rfl hg1) (RdIn.row (xs := pks l0) 16 rfl) hl0 (good_segs 17 rfl hg0) (hcon1.trans hcon0.symm) (by rw [hpln]; omega)) (fun v w hv => ?_)
        obtain ⟨rfl, H⟩ := hv
        refine l_pbool rfl rfl ?_
        refine l_split 87 rfl (fun h87 => ?_) (fun h87 => absurd h87 (by decide))
        try simp only [decide_eq_true_eq, decide_eq_false_iff_not, Bool.not_eq_true', Bool.not_eq_false', beq_iff_eq, beq_eq_false_iff_ne, bne_iff_ne, bne_eq_false_iff_eq, ne_eq, Int.not_lt, Int.not_le] at h87
        refine l_pptr rfl rfl ?_
        refine b_call rfl cb_18 rfl (Sent_ok (i := 0) H rfl rfl) (fun v w hv => ?_)
        obtain ⟨rfl, rfl⟩ := hv
        refine l_pint rfl rfl ?_
        refine l_pbool rfl rfl ?_
        refine l_pickT (v := .bool _) rfl rfl rfl ?_
        refine l_pbool rfl rfl ?_
        refine l_nil ?_
        refine w_ret ?_
        refine fin1 (v := .bool _) rfl ?_
        exact ⟨by simp, _, H⟩

end Go.Proofs.Ytmgcmgfjaimlnaa
