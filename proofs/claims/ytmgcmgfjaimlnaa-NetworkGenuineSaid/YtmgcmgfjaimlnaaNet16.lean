/- The law NetworkGenuine answers true, of every script and every packet. -/
import Derived.Test.YtmgcmgfjaimlnaaNet15
namespace Go.Proofs.Ytmgcmgfjaimlnaa
open Go.EW
attribute [local irreducible] EW.W EW.L EW.fin
set_option linter.unusedVariables false
set_option linter.unusedSimpArgs false

theorem pks_snoc' (l : List Pk) (q : Pk) : pks l ++ [.int .i64 q.fr, .int .i64 q.to, .slice q.a q.n q.cap] = pks (l ++ [q]) := (pks_snoc l q).symm
theorem gen_send_fin {W w : World} {F' : List Seg} {b x0 x8 x9 T0 T8 T9 b3 : Nat} {y0 y8 y9 c3 : List Value} {st : NetS} {q : Pk} {sl : List Pk} {a53 : Option Addr} {c53 : Nat}
    (H : St W w (blk0 x0 y0 T0 :: netL b st (blk x9 y9 T9 :: q.own :: blk x8 y8 T8 :: row 31 3 a53 (sl.length + 1) c53 (pks sl ++ [.int .i64 q.fr, .int .i64 q.to, .slice q.a q.n q.cap]) :: blk b3 c3 31 :: F'))) :
    St W w (netL b st (row 31 3 a53 (sl ++ [q]).length c53 (pks (sl ++ [q])) :: blk b3 c3 31 :: q.own :: F')) := by
  have H1 := H.pick [1, 2, 3, 4, 5, 6, 7, 11, 12, 9] (pre := [_, _, _, _, _, _, _, _, _, _, _, _, _]) rfl rfl
  rw [pks_snoc, List.length_append, List.length_singleton]
  exact H1
theorem gen_good {W : World} {F' : List Seg} {sl : List Pk} {q : Pk} (h : Good W F' sl) (hq : q.bs.length = q.n) (hn : q.n ≤ 32768) : Good W (q.own :: F') (sl ++ [q]) := by
  intro p hp
  rcases List.mem_append.1 hp with hp | hp
  · exact ⟨(h p hp).1.up 1 rfl, (h p hp).2⟩
  · obtain rfl := List.mem_singleton.1 hp
    exact ⟨RdIn.row 0 rfl, hq, by omega⟩

set_option maxRecDepth 8000 in
set_option maxHeartbeats 2000000 in
theorem NetworkGenuine_ok {W w : World} {F : List Seg} (H : St W w F) {oa : Option Addr} {tn oc : Nat} {os : List OpS} (hro : RdIn W [] oa (opsL os)) (hon : os.length = tn) (hgo : OpGood W os) (htn : tn * 80 ≤ 140737488351232) {po : Pk} (hpo : RdIn W [] po.a (po.bs.map B)) (hpol : po.bs.length = po.n) (hpon : po.n ≤ 140737488355328) :
    Ok Try.prog 6 [.slice oa tn oc, pkv po].toArray w (fun v w' => v = .bool true ∧ ∃ S, St W w' S) := by
  refine enter (n := 186) (rs := #[.tmp 4]) Try.func6 rfl rfl rfl rfl ?_
  refine w_seq ?_
  refine w_region ?_
  refine b_box rfl rfl rfl H (fun b3 w H => ?_)
  refine l_pbool rfl rfl ?_
  refine l_nil ?_
  refine w_seq ?_
  refine w_region ?_
  refine b_call rfl cb_28 rfl (made_ok H) (fun v w hv => ?_)
  obtain ⟨b, pm, cm, rfl, H⟩ := hv
  refine l_pptr rfl rfl ?_
  refine l_nil ?_
  refine w_seq ?_
  refine w_seq ?_
  refine w_region ?_
  refine l_pptr rfl rfl ?_
  refine l_v rfl (q_eqlNilF rfl pt_24 rfl rfl) ?_
  refine l_pbool rfl rfl ?_
  refine b_call rfl cb_11 rfl (works_ok H) (fun v w hv => ?_)
  obtain ⟨rfl, H⟩ := hv
  refine l_pbool rfl rfl ?_
  refine l_pickF (v := .bool _) rfl rfl rfl ?_
  refine l_nil ?_
  refine w_cond rfl (fun c1 => ?_) (fun c1 => ?_)
  · try simp only [decide_eq_true_eq, decide_eq_false_iff_not, Bool.not_eq_true', Bool.not_eq_false', beq_iff_eq, beq_eq_false_iff_ne, bne_iff_ne, bne_eq_false_iff_eq, ne_eq, Int.not_lt, Int.not_le] at c1
    refine w_seq ?_
    refine w_region ?_
    refine l_pbool rfl rfl ?_
    refine l_nil ?_
    refine w_ret ?_
    refine fin1 (v := .bool _) rfl ?_
    exact absurd c1 (by decide)
  · try simp only [decide_eq_true_eq, decide_eq_false_iff_not, Bool.not_eq_true', Bool.not_eq_false', beq_iff_eq, beq_eq_false_iff_ne, bne_iff_ne, bne_eq_false_iff_eq, ne_eq, Int.not_lt, Int.not_le] at c1
    refine w_skip ?_
    refine w_seq ?_
    refine w_region ?_
    refine l_pslice rfl rfl ?_
    refine l_nil ?_
    refine w_seq ?_
    refine w_seq ?_
    refine w_region ?_
    refine l_pint rfl rfl ?_
    refine l_nil ?_
    refine w_block ?_
    refine w_loopG (G := Nat × NetS × Option Addr × Nat × List Pk × List Seg) [4, 6, 7, 8, 9, 10, 11, 28, 29, 30, 31, 32, 33, 34, 35, 36, 37, 38, 39, 40, 41, 42, 43, 44, 45, 46, 47, 48, 49, 50, 51, 52, 53, 54, 55, 56, 57, 58, 59, 60, 61, 62, 63, 64, 65, 66, 67, 68, 69, 70, 71, 72, 73, 74, 75, 76, 77, 78, 79, 80, 81, 82, 83, 84, 85, 86, 87, 88, 89, 90, 91, 92, 93, 94, 95, 96, 97, 98, 99, 100, 101, 102] (fun ⟨t, st, sa, sc, sl, F'⟩ => [(7, .int .i64 ((t : Nat) : Int)), (6, .slice sa sl.length sc)]) (fun m ⟨t, st, sa, sc, sl, F'⟩ w => m + t = tn ∧ NetOk st t ∧ Gen st sl ∧ sl.length ≤ t ∧ Good W F' sl ∧ St W w (netL b st (row 31 3 sa sl.length sc (pks sl) :: blk b3 po.cells 31 :: F'))) (fun _ => rfl) ?_ ?_
    · exact ⟨tn, (0, newS 3 2 pm cm, none, 0, [], F), ⟨rfl, rfl, trivial⟩, by omega, NetOk.new pm cm, Gen.new pm cm, by simp, fun p hp => by simp at hp, sink7 (St.newRow H)⟩
    · rintro m ⟨t, st, sa, sc, sl, F'⟩ ρ1 w ⟨hmt, hok, hgen, hsl, hgood, H⟩
      refine w_seq ?_
      refine w_seq ?_
      refine w_region ?_
      refine l_pint rfl rfl ?_
      refine l_pslice rfl rfl ?_
      refine l_v rfl (q_lenSlice rfl el_39 rfl) ?_
      refine l_pbool rfl rfl ?_
      refine l_nil ?_
      refine w_cond rfl (fun c2 => ?_) (fun c2 => ?_)
      · try simp only [decide_eq_true_eq, decide_eq_false_iff_not, Bool.not_eq_true', Bool.not_eq_false', beq_iff_eq, beq_eq_false_iff_ne, bne_iff_ne, bne_eq_false_iff_eq, ne_eq, Int.not_lt, Int.not_le] at c2
        obtain ⟨o, ho⟩ : ∃ o, os[t]? = some o := ⟨_, List.getElem?_eq_getElem (by omega)⟩
        obtain ⟨b0, o0, hoa, hoc⟩ := op_cells ((RdIn.ro hro).use H 0 rfl) ho
        have hop := hgo o (List.mem_of_getElem? ho)
        refine w_skip ?_
        refine w_seq ?_
        refine w_block ?_
        refine w_seq ?_
        refine w_region ?_
        refine l_pslice rfl rfl ?_
        refine l_pint rfl rfl ?_
        refine l_v rfl (q_indexSliceA rfl el_39 rfl hoa rfl (by omega)) ?_
        refine l_v rfl (q_loadN (vs := [_, _, _, _, _, _, _, _]) rfl ag_41 rfl rfl hoc) ?_
        refine b_alloc rfl ze_41 rfl H (fun b8 w H => ?_)
        first | refine b_store (cs' := [_, _, _, _, _, _, _, _]) rfl sz_41 rfl rfl rfl rfl rfl H 0 rfl rfl rfl (fun w H => ?_) | refine b_store (cs' := [_, _, _, _, _, _, _, _]) rfl sz_41 rfl rfl rfl rfl rfl H 1 rfl rfl rfl (fun w H => ?_) | refine b_store (cs' := [_, _, _, _, _, _, _, _]) rfl sz_41 rfl rfl rfl rfl rfl H 2 rfl rfl rfl (fun w H => ?_) | refine b_store (cs' := [_, _, _, _, _, _, _, _]) rfl sz_41 rfl rfl rfl rfl rfl H 3 rfl rfl rfl (fun w H => ?_) | refine b_store (cs' := [_, _, _, _, _, _, _, _]) rfl sz_41 rfl rfl rfl rfl rfl H 4 rfl rfl rfl (fun w H => ?_) | refine b_store (cs' := [_, _, _, _, _, _, _, _]) rfl sz_41 rfl rfl rfl rfl rfl H 5 rfl rfl rfl (fun w H => ?_) | refine b_store (cs' := [_, _, _, _, _, _, _, _]) rfl sz_41 rfl rfl rfl rfl rfl H 6 rfl rfl rfl (fun w H => ?_) | refine b_store (cs' := [_, _, _, _, _, _, _, _]) rfl sz_41 rfl rfl rfl rfl rfl H 7 rfl rfl rfl (fun w H => ?_) | refine b_store (cs' := [_, _, _, _, _, _, _, _]) rfl sz_41 rfl rfl rfl rfl rfl H 8 rfl rfl rfl (fun w H => ?_) | refine b_store (cs' := [_, _, _, _, _, _, _, _]) rfl sz_41 rfl rfl rfl rfl rfl H 9 rfl rfl rfl (fun w H => ?_) | refine b_store (cs' := [_, _, _, _, _, _, _, _]) rfl sz_41 rfl rfl rfl rfl rfl H 10 rfl rfl rfl (fun w H => ?_) | refine b_store (cs' := [_, _, _, _, _, _, _, _]) rfl sz_41 rfl rfl rfl rfl rfl H 11 rfl rfl rfl (fun w H => ?_) | refine b_store (cs' := [_, _, _, _, _, _, _, _]) rfl sz_41 rfl rfl rfl rfl rfl H 12 rfl rfl rfl (fun w H => ?_)
        refine l_nil ?_
        refine w_seq ?_
        refine w_region ?_
        refine l_v rfl (q_fieldAddr rfl fo41_0 rfl) ?_
        refine l_v rfl (q_load1 rfl c1_3 rfl (by first | exact H.cell 0 rfl rfl | exact H.cell 1 rfl rfl | exact H.cell 2 rfl rfl | exact H.cell 3 rfl rfl | exact H.cell 4 rfl rfl | exact H.cell 5 rfl rfl | exact H.cell 6 rfl rfl | exact H.cell 7 rfl rfl | exact H.cell 8 rfl rfl | exact H.cell 9 rfl rfl | exact H.cell 10 rfl rfl | exact H.cell 11 rfl rfl | exact H.cell 12 rfl rfl)) ?_
        refine l_nil ?_
        refine w_block ?_
        refine w_cutG (G := Unit) [40, 41, 42] (fun _ => [(40, .bool (decide (o.kind = 0 ∨ o.kind = 1)))]) (fun _ w => St W w (blk b8 o.cells 41 :: netL b st (row 31 3 sa sl.length sc (pks sl) :: blk b3 po.cells 31 :: F'))) (fun _ => rfl) ?_ ?_
        · refine w_seq ?_
          refine w_region ?_
          refine l_pbool rfl rfl ?_
          refine l_pbool rfl rfl ?_
          refine l_nil ?_
          refine w_cond rfl (fun c3 => ?_) (fun c3 => ?_)
          · try simp only [decide_eq_true_eq, decide_eq_false_iff_not, Bool.not_eq_true', Bool.not_eq_false', beq_iff_eq, beq_eq_false_iff_ne, bne_iff_ne, bne_eq_false_iff_eq, ne_eq, Int.not_lt, Int.not_le] at c3
            refine w_skip ?_
            refine ⟨by repeat' first | exact Agr.mix _ _ _ | exact Agr.refl _ _ | refine Agr.inner rfl ?_ | refine Agr.upd rfl ?_ | refine Agr.updL' rfl ?_, ?_⟩
            exact ⟨(), ⟨by exact congrArg Value.bool (by simp [c3]), trivial⟩, H⟩
          · try simp only [decide_eq_true_eq, decide_eq_false_iff_not, Bool.not_eq_true', Bool.not_eq_false', beq_iff_eq, beq_eq_false_iff_ne, bne_iff_ne, bne_eq_false_iff_eq, ne_eq, Int.not_lt, Int.not_le] at c3
            refine w_region ?_
            refine l_pbool rfl rfl ?_
            refine l_pbool rfl rfl ?_
            refine l_nil ?_
            refine ⟨by repeat' first | exact Agr.mix _ _ _ | exact Agr.refl _ _ | refine Agr.inner rfl ?_ | refine Agr.upd rfl ?_ | refine Agr.updL' rfl ?_, ?_⟩
            exact ⟨(), ⟨by exact congrArg Value.bool (by rw [Bool.eq_iff_iff]; simp [c3]), trivial⟩, H⟩
        · rintro _ ρ1 w H
          refine w_cond rfl (fun c4 => ?_) (fun c4 => ?_)
          · try simp only [decide_eq_true_eq, decide_eq_false_iff_not, Bool.not_eq_true', Bool.not_eq_false', beq_iff_eq, beq_eq_false_iff_ne, bne_iff_ne, bne_eq_false_iff_eq, ne_eq, Int.not_lt, Int.not_le] at c4
            refine w_seq ?_
            refine w_region ?_
            refine l_v rfl (q_fieldAddr rfl fo41_4 rfl) ?_
            refine l_v rfl (q_loadN (vs := [_, _, _]) rfl ag_31 rfl rfl ((H.cells 0 rfl).sub 4 3)) ?_
            refine b_call rfl cb_20 rfl (fit_ok H o.pk.fr o.pk.to (RdIn.ro hop.1) hop.2.1 hop.2.2) (fun v w hv => ?_)
            obtain ⟨q, rfl, hqf, hqt, hqn, hql, _, H⟩ := hv
            refine b_alloc rfl ze_31 rfl H (fun b9 w H => ?_)
            first | refine b_store (cs' := [_, _, _]) rfl sz_31 rfl rfl rfl rfl rfl H 0 rfl rfl rfl (fun w H => ?_) | refine b_store (cs' := [_, _, _]) rfl sz_31 rfl rfl rfl rfl rfl H 1 rfl rfl rfl (fun w H => ?_) | refine b_store (cs' := [_, _, _]) rfl sz_31 rfl rfl rfl rfl rfl H 2 rfl rfl rfl (fun w H => ?_) | refine b_store (cs' := [_, _, _]) rfl sz_31 rfl rfl rfl rfl rfl H 3 rfl rfl rfl (fun w H => ?_) | refine b_store (cs' := [_, _, _]) rfl sz_31 rfl rfl rfl rfl rfl H 4 rfl rfl rfl (fun w H => ?_) | refine b_store (cs' := [_, _, _]) rfl sz_31 rfl rfl rfl rfl rfl H 5 rfl rfl rfl (fun w H => ?_) | refine b_store (cs' := [_, _, _]) rfl sz_31 rfl rfl rfl rfl rfl H 6 rfl rfl rfl (fun w H => ?_) | refine b_store (cs' := [_, _, _]) rfl sz_31 rfl rfl rfl rfl rfl H 7 rfl rfl rfl (fun w H => ?_) | refine b_store (cs' := [_, _, _]) rfl sz_31 rfl rfl rfl rfl rfl H 8 rfl rfl rfl (fun w H => ?_) | refine b_store (cs' := [_, _, _]) rfl sz_31 rfl rfl rfl rfl rfl H 9 rfl rfl rfl (fun w H => ?_) | refine b_store (cs' := [_, _, _]) rfl sz_31 rfl rfl rfl rfl rfl H 10 rfl rfl rfl (fun w H => ?_) | refine b_store (cs' := [_, _, _]) rfl sz_31 rfl rfl rfl rfl rfl H 11 rfl rfl rfl (fun w H => ?_) | refine b_store (cs' := [_, _, _]) rfl sz_31 rfl rfl rfl rfl rfl H 12 rfl rfl rfl (fun w H => ?_)
            refine l_nil ?_
            refine w_seq ?_
            refine w_seq ?_
            refine w_region ?_
            refine l_pptr rfl rfl ?_
            refine l_v rfl (q_loadN (vs := [_, _, _]) rfl ag_31 rfl rfl (by first | exact H.cells 0 rfl | exact H.cells 1 rfl | exact H.cells 2 rfl | exact H.cells 3 rfl | exact H.cells 4 rfl | exact H.cells 5 rfl | exact H.cells 6 rfl | exact H.cells 7 rfl | exact H.cells 8 rfl | exact H.cells 9 rfl | exact H.cells 10 rfl | exact H.cells 11 rfl | exact H.cells 12 rfl)) ?_
            refine b_call rfl cb_19 rfl (Send_ok (sinkX [_, _, _] H) hok.fit hok.few (by omega) q.fr q.to (RdIn.row 1 rfl) hql (by have := hok.pl; omega) (by have := hok.rl; omega)) (fun v w hv => ?_)
            obtain ⟨rfl, hv⟩ := hv
            have he : layE st q.fr q.to q.n true = 0 := layE_0 (fun h => h.2 (hok.addr hqf)) (hok.addr hqt) (by omega)
            rw [he]
            obtain ⟨_, a', pa, pcap, a'', ra, rcap, H⟩ := hv.resolve_left (fun h => h.1 he)
            have hok' := hok.send (fr := q.fr) q.bs a' pa pcap a'' ra rcap hqt hqn
            have hgen' := hgen.send hok.few q a' pa pcap a'' ra rcap
            refine l_pbool rfl rfl ?_
            refine l_nil ?_
            refine w_cond rfl (fun c5 => ?_) (fun c5 => ?_)
            · try simp only [decide_eq_true_eq, decide_eq_false_iff_not, Bool.not_eq_true', Bool.not_eq_false', beq_iff_eq, beq_eq_false_iff_ne, bne_iff_ne, bne_eq_false_iff_eq, ne_eq, Int.not_lt, Int.not_le] at c5
              refine w_seq ?_
              refine w_region ?_
              refine l_pbool rfl rfl ?_
              refine l_nil ?_
              refine w_ret ?_
              refine fin1 (v := .bool _) rfl ?_
              exact absurd c5 (by decide)
            · try simp only [decide_eq_true_eq, decide_eq_false_iff_not, Bool.not_eq_true', Bool.not_eq_false', beq_iff_eq, beq_eq_false_iff_ne, bne_iff_ne, bne_eq_false_iff_eq, ne_eq, Int.not_lt, Int.not_le] at c5
              refine w_skip ?_
              refine w_region ?_
              refine l_pslice rfl rfl ?_
              refine l_v rfl (q_loadN (vs := [_, _, _]) rfl ag_31 rfl rfl (by first | exact H.cells 0 rfl | exact H.cells 1 rfl | exact H.cells 2 rfl | exact H.cells 3 rfl | exact H.cells 4 rfl | exact H.cells 5 rfl | exact H.cells 6 rfl | exact H.cells 7 rfl | exact H.cells 8 rfl | exact H.cells 9 rfl | exact H.cells 10 rfl | exact H.cells 11 rfl | exact H.cells 12 rfl)) ?_
              refine b_buildSlice (cs := [_, _, _]) rfl el_22 ze_31 rfl rfl rfl H (fun b52 w H => ?_)
              refine b_append rfl el_22 ze_31 rfl rfl rfl H 11 rfl (Rd.mk (H.cells0 0 rfl)) rfl (by simp [Value.oneCell']) ⟨by (try dsimp only); omega, by simp only [maxLen]; (try dsimp only); omega⟩ (fun a53 c53 w H => ?_)
              refine l_pslice rfl rfl ?_
              refine l_nil ?_
              refine w_region ?_
              refine l_pint rfl rfl ?_
              first | refine l_v rfl (q_add rfl rfl rfl (by simp only [inK]; omega)) ?_ | refine l_pint rfl rfl ?_
              refine l_pint rfl rfl ?_
              refine l_nil ?_
              refine ⟨by repeat' first | exact Agr.mix _ _ _ | exact Agr.refl _ _ | refine Agr.inner rfl ?_ | refine Agr.upd rfl ?_ | refine Agr.updL' rfl ?_, ?_⟩
              first
                | exact ⟨m - 1, (t + 1, _, sa, sc, sl, F'), by omega, ⟨by exact congrArg (Value.int IntKind.i64) (Int.natCast_succ t).symm, rfl, trivial⟩, by omega, hok', hgen', by omega, hgood, H'⟩
                | exact ⟨m - 1, (t + 1, _, sa, sc, sl, F'), by omega, ⟨by exact congrArg (Value.int IntKind.i64) (Int.natCast_succ t).symm, rfl, trivial⟩, by omega, hok', hgen', by omega, hgood, (liftX [_] (H.dropN 2)).dropN 1⟩
                | exact ⟨m - 1, (t + 1, _, a53, c53, sl ++ [q], q.own :: F'), by omega, ⟨by exact congrArg (Value.int IntKind.i64) (Int.natCast_succ t).symm, by exact congrArg (fun x => Value.slice a53 x c53) (by simp), trivial⟩, by omega, hok', hgen', by simp; omega, gen_good hgood hql hqn, gen_send_fin H⟩
          · try simp only [decide_eq_true_eq, decide_eq_false_iff_not, Bool.not_eq_true', Bool.not_eq_false', beq_iff_eq, beq_eq_false_iff_ne, bne_iff_ne, bne_eq_false_iff_eq, ne_eq, Int.not_lt, Int.not_le] at c4
            refine w_seq ?_
            refine w_region ?_
            refine l_pbool rfl rfl ?_
            refine l_pbool rfl rfl ?_
            refine l_nil ?_
            refine w_cond rfl (fun c6 => ?_) (fun c6 => ?_)
            · try simp only [decide_eq_true_eq, decide_eq_false_iff_not, Bool.not_eq_true', Bool.not_eq_false', beq_iff_eq, beq_eq_false_iff_ne, bne_iff_ne, bne_eq_false_iff_eq, ne_eq, Int.not_lt, Int.not_le] at c6
              refine w_seq ?_
              refine w_region ?_
              refine l_pptr rfl rfl ?_
              refine l_v rfl (q_fieldAddr rfl fo41_1 rfl) ?_
              refine l_v rfl (q_load1 rfl c1_3 rfl (by first | exact H.cell 0 rfl rfl | exact H.cell 1 rfl rfl | exact H.cell 2 rfl rfl | exact H.cell 3 rfl rfl | exact H.cell 4 rfl rfl | exact H.cell 5 rfl rfl | exact H.cell 6 rfl rfl | exact H.cell 7 rfl rfl | exact H.cell 8 rfl rfl | exact H.cell 9 rfl rfl | exact H.cell 10 rfl rfl | exact H.cell 11 rfl rfl | exact H.cell 12 rfl rfl)) ?_
              refine b_call rfl cb_14 rfl (Take_ok (sinkX [_] H) hok.fit o.k) (fun v w hv => ?_)
              obtain ⟨q, e, rfl, hat, H⟩ := hv
              have hql := (H.rowInv (i := 0) rfl).1
              have hok' := (hok.take o.k).mono (Nat.le_succ _)
              have hgen' := hgen.take o.k
              refine l_ptup rfl rfl ?_
              refine l_pagg rfl rfl ?_
              refine l_pint rfl rfl ?_
              refine b_alloc rfl ze_31 rfl H (fun b10 w H => ?_)
              first | refine b_store (cs' := [_, _, _]) rfl sz_31 rfl rfl rfl rfl rfl H 0 rfl rfl rfl (fun w H => ?_) | refine b_store (cs' := [_, _, _]) rfl sz_31 rfl rfl rfl rfl rfl H 1 rfl rfl rfl (fun w H => ?_) | refine b_store (cs' := [_, _, _]) rfl sz_31 rfl rfl rfl rfl rfl H 2 rfl rfl rfl (fun w H => ?_) | refine b_store (cs' := [_, _, _]) rfl sz_31 rfl rfl rfl rfl rfl H 3 rfl rfl rfl (fun w H => ?_) | refine b_store (cs' := [_, _, _]) rfl sz_31 rfl rfl rfl rfl rfl H 4 rfl rfl rfl (fun w H => ?_) | refine b_store (cs' := [_, _, _]) rfl sz_31 rfl rfl rfl rfl rfl H 5 rfl rfl rfl (fun w H => ?_) | refine b_store (cs' := [_, _, _]) rfl sz_31 rfl rfl rfl rfl rfl H 6 rfl rfl rfl (fun w H => ?_) | refine b_store (cs' := [_, _, _]) rfl sz_31 rfl rfl rfl rfl rfl H 7 rfl rfl rfl (fun w H => ?_) | refine b_store (cs' := [_, _, _]) rfl sz_31 rfl rfl rfl rfl rfl H 8 rfl rfl rfl (fun w H => ?_) | refine b_store (cs' := [_, _, _]) rfl sz_31 rfl rfl rfl rfl rfl H 9 rfl rfl rfl (fun w H => ?_) | refine b_store (cs' := [_, _, _]) rfl sz_31 rfl rfl rfl rfl rfl H 10 rfl rfl rfl (fun w H => ?_) | refine b_store (cs' := [_, _, _]) rfl sz_31 rfl rfl rfl rfl rfl H 11 rfl rfl rfl (fun w H => ?_) | refine b_store (cs' := [_, _, _]) rfl sz_31 rfl rfl rfl rfl rfl H 12 rfl rfl rfl (fun w H => ?_)
              refine l_pint rfl rfl ?_
              refine l_nil ?_
              refine w_seq ?_
              refine w_region ?_
              refine l_pint rfl rfl ?_
              refine l_pbool rfl rfl ?_
              refine l_pbool rfl rfl ?_
              refine l_split 65 rfl (fun h65 => ?_) (fun h65 => ?_)
              · try simp only [decide_eq_true_eq, decide_eq_false_iff_not, Bool.not_eq_true', Bool.not_eq_false', beq_iff_eq, beq_eq_false_iff_ne, bne_iff_ne, bne_eq_false_iff_eq, ne_eq, Int.not_lt, Int.not_le] at h65
                refine l_pslice rfl rfl ?_
                refine l_v rfl (q_loadN (vs := [_, _, _]) rfl ag_31 rfl rfl (by first | exact H.cells 0 rfl | exact H.cells 1 rfl | exact H.cells 2 rfl | exact H.cells 3 rfl | exact H.cells 4 rfl | exact H.cells 5 rfl | exact H.cells 6 rfl | exact H.cells 7 rfl | exact H.cells 8 rfl | exact H.cells 9 rfl | exact H.cells 10 rfl | exact H.cells 11 rfl | exact H.cells 12 rfl)) ?_
                refine b_call rfl cb_29 rfl (was_ok (p := q) H (RdIn.row 10 rfl) rfl (hgood.up 12 rfl) (by omega) (RdIn.row 1 rfl) (by simpa using hql)) (fun v w hv => ?_)
                obtain ⟨r, rfl, hr, H⟩ := hv
                obtain rfl : r = true := by
                  obtain ⟨p0, _, _, hp0, _, hq⟩ := hat.resolve_left (fun h => by have := h.2.1; omega)
                  obtain ⟨x, hx, h1, h2⟩ := hgen.pool p0 (List.mem_of_getElem? hp0)
                  exact hr.2 ⟨x, hx, by rw [hq]; exact h1, by rw [hq]; exact h2⟩
                refine l_pbool rfl rfl ?_
                refine l_pickT (v := .bool _) rfl rfl rfl ?_
                refine l_nil ?_
                refine w_cond rfl (fun c7 => ?_) (fun c7 => ?_)
                · try simp only [decide_eq_true_eq, decide_eq_false_iff_not, Bool.not_eq_true', Bool.not_eq_false', beq_iff_eq, beq_eq_false_iff_ne, bne_iff_ne, bne_eq_false_iff_eq, ne_eq, Int.not_lt, Int.not_le] at c7
                  refine w_seq ?_
                  refine w_region ?_
                  refine l_pbool rfl rfl ?_
                  refine l_nil ?_
                  refine w_ret ?_
                  refine fin1 (v := .bool _) rfl ?_
                  exact absurd c7 (by decide)
                · try simp only [decide_eq_true_eq, decide_eq_false_iff_not, Bool.not_eq_true', Bool.not_eq_false', beq_iff_eq, beq_eq_false_iff_ne, bne_iff_ne, bne_eq_false_iff_eq, ne_eq, Int.not_lt, Int.not_le] at c7
                  refine w_skip ?_
                  refine w_region ?_
                  refine l_pint rfl rfl ?_
                  first | refine l_v rfl (q_add rfl rfl rfl (by simp only [inK]; omega)) ?_ | refine l_pint rfl rfl ?_
                  refine l_pint rfl rfl ?_
                  refine l_nil ?_
                  refine ⟨by repeat' first | exact Agr.mix _ _ _ | exact Agr.refl _ _ | refine Agr.inner rfl ?_ | refine Agr.upd rfl ?_ | refine Agr.updL' rfl ?_, ?_⟩
                  first
                    | exact ⟨m - 1, (t + 1, _, sa, sc, sl, F'), by omega, ⟨by exact congrArg (Value.int IntKind.i64) (Int.natCast_succ t).symm, rfl, trivial⟩, by omega, hok', hgen', by omega, hgood, H'⟩
                    | exact ⟨m - 1, (t + 1, _, sa, sc, sl, F'), by omega, ⟨by exact congrArg (Value.int IntKind.i64) (Int.natCast_succ t).symm, rfl, trivial⟩, by omega, hok', hgen', by omega, hgood, (liftX [_] (H.dropN 2)).dropN 1⟩
                    | exact ⟨m - 1, (t + 1, _, a53, c53, sl ++ [q], q.own :: F'), by omega, ⟨by exact congrArg (Value.int IntKind.i64) (Int.natCast_succ t).symm, by exact congrArg (fun x => Value.slice a53 x c53) (by simp), trivial⟩, by omega, hok', hgen', by simp; omega, gen_good hgood hql hqn, gen_send_fin H⟩
              · try simp only [decide_eq_true_eq, decide_eq_false_iff_not, Bool.not_eq_true', Bool.not_eq_false', beq_iff_eq, beq_eq_false_iff_ne, bne_iff_ne, bne_eq_false_iff_eq, ne_eq, Int.not_lt, Int.not_le] at h65
                refine l_no rfl ?_
                refine l_no rfl ?_
                refine l_no rfl ?_
                refine l_no rfl ?_
                refine l_pickF (v := .bool _) rfl rfl rfl ?_
                refine l_nil ?_
                refine w_cond_f rfl ?_
                refine w_skip ?_
                refine w_region ?_
                refine l_pint rfl rfl ?_
                first | refine l_v rfl (q_add rfl rfl rfl (by simp only [inK]; omega)) ?_ | refine l_pint rfl rfl ?_
                refine l_pint rfl rfl ?_
                refine l_nil ?_
                refine ⟨by repeat' first | exact Agr.mix _ _ _ | exact Agr.refl _ _ | refine Agr.inner rfl ?_ | refine Agr.upd rfl ?_ | refine Agr.updL' rfl ?_, ?_⟩
                first
                  | exact ⟨m - 1, (t + 1, _, sa, sc, sl, F'), by omega, ⟨by exact congrArg (Value.int IntKind.i64) (Int.natCast_succ t).symm, rfl, trivial⟩, by omega, hok', hgen', by omega, hgood, H'⟩
                  | exact ⟨m - 1, (t + 1, _, sa, sc, sl, F'), by omega, ⟨by exact congrArg (Value.int IntKind.i64) (Int.natCast_succ t).symm, rfl, trivial⟩, by omega, hok', hgen', by omega, hgood, (liftX [_] (H.dropN 2)).dropN 1⟩
                  | exact ⟨m - 1, (t + 1, _, a53, c53, sl ++ [q], q.own :: F'), by omega, ⟨by exact congrArg (Value.int IntKind.i64) (Int.natCast_succ t).symm, by exact congrArg (fun x => Value.slice a53 x c53) (by simp), trivial⟩, by omega, hok', hgen', by simp; omega, gen_good hgood hql hqn, gen_send_fin H⟩
            · try simp only [decide_eq_true_eq, decide_eq_false_iff_not, Bool.not_eq_true', Bool.not_eq_false', beq_iff_eq, beq_eq_false_iff_ne, bne_iff_ne, bne_eq_false_iff_eq, ne_eq, Int.not_lt, Int.not_le] at c6
              refine w_seq ?_
              refine w_region ?_
              refine l_pbool rfl rfl ?_
              refine l_pbool rfl rfl ?_
              refine l_nil ?_
              refine w_cond rfl (fun c8 => ?_) (fun c8 => ?_)
              · try simp only [decide_eq_true_eq, decide_eq_false_iff_not, Bool.not_eq_true', Bool.not_eq_false', beq_iff_eq, beq_eq_false_iff_ne, bne_iff_ne, bne_eq_false_iff_eq, ne_eq, Int.not_lt, Int.not_le] at c8
                refine w_region ?_
                refine l_pptr rfl rfl ?_
                refine l_v rfl (q_fieldAddr rfl fo41_1 rfl) ?_
                refine l_v rfl (q_load1 rfl c1_3 rfl (by first | exact H.cell 0 rfl rfl | exact H.cell 1 rfl rfl | exact H.cell 2 rfl rfl | exact H.cell 3 rfl rfl | exact H.cell 4 rfl rfl | exact H.cell 5 rfl rfl | exact H.cell 6 rfl rfl | exact H.cell 7 rfl rfl | exact H.cell 8 rfl rfl | exact H.cell 9 rfl rfl | exact H.cell 10 rfl rfl | exact H.cell 11 rfl rfl | exact H.cell 12 rfl rfl)) ?_
                refine b_call rfl cb_26 rfl (Copy_ok (sinkX [_] H) hok.fit (by have := hok.pl; omega) o.k) (fun v w hv => ?_)
                obtain ⟨q, e, rfl, hat, hv⟩ := hv
                obtain ⟨st', hok', hgen', H⟩ : ∃ st', NetOk st' (t + 1) ∧ Gen st' sl ∧ St W w (netL b st' (blk b8 o.cells 41 :: row 31 3 sa sl.length sc (pks sl) :: blk b3 po.cells 31 :: F')) := by
                  rcases hv with ⟨_, H⟩ | ⟨he, pa, pcap, H⟩
                  · exact ⟨st, hok.mono (Nat.le_succ _), hgen, H⟩
                  · obtain ⟨p0, _, _, hp0, _, hq⟩ := hat.resolve_left (fun h => by have := h.2.1; omega)
                    have hpm := List.mem_of_getElem? hp0
                    have hpp := hok.pool p0 hpm
                    exact ⟨_, hok.copy (q := q) (by rw [hq]; exact hpp.1) (by rw [hq]; exact hpp.2) pa pcap, hgen.copy hpm (AtR.con hq) pa pcap, H⟩
                have H' := (liftX [_] H).dropN 1
                refine l_nil ?_
                refine w_region ?_
                refine l_pint rfl rfl ?_
                first | refine l_v rfl (q_add rfl rfl rfl (by simp only [inK]; omega)) ?_ | refine l_pint rfl rfl ?_
                refine l_pint rfl rfl ?_
                refine l_nil ?_
                refine ⟨by repeat' first | exact Agr.mix _ _ _ | exact Agr.refl _ _ | refine Agr.inner rfl ?_ | refine Agr.upd rfl ?_ | refine Agr.updL' rfl ?_, ?_⟩
                first
                  | exact ⟨m - 1, (t + 1, _, sa, sc, sl, F'), by omega, ⟨by exact congrArg (Value.int IntKind.i64) (Int.natCast_succ t).symm, rfl, trivial⟩, by omega, hok', hgen', by omega, hgood, H'⟩
                  | exact ⟨m - 1, (t + 1, _, sa, sc, sl, F'), by omega, ⟨by exact congrArg (Value.int IntKind.i64) (Int.natCast_succ t).symm, rfl, trivial⟩, by omega, hok', hgen', by omega, hgood, (liftX [_] (H.dropN 2)).dropN 1⟩
                  | exact ⟨m - 1, (t + 1, _, a53, c53, sl ++ [q], q.own :: F'), by omega, ⟨by exact congrArg (Value.int IntKind.i64) (Int.natCast_succ t).symm, by exact congrArg (fun x => Value.slice a53 x c53) (by simp), trivial⟩, by omega, hok', hgen', by simp; omega, gen_good hgood hql hqn, gen_send_fin H⟩
              · try simp only [decide_eq_true_eq, decide_eq_false_iff_not, Bool.not_eq_true', Bool.not_eq_false', beq_iff_eq, beq_eq_false_iff_ne, bne_iff_ne, bne_eq_false_iff_eq, ne_eq, Int.not_lt, Int.not_le] at c8
                refine w_seq ?_
                refine w_region ?_
                refine l_pbool rfl rfl ?_
                refine l_pbool rfl rfl ?_
                refine l_nil ?_
                refine w_cond rfl (fun c9 => ?_) (fun c9 => ?_)
                · try simp only [decide_eq_true_eq, decide_eq_false_iff_not, Bool.not_eq_true', Bool.not_eq_false', beq_iff_eq, beq_eq_false_iff_ne, bne_iff_ne, bne_eq_false_iff_eq, ne_eq, Int.not_lt, Int.not_le] at c9
                  refine w_region ?_
                  refine l_pptr rfl rfl ?_
                  refine l_v rfl (q_fieldAddr rfl fo41_1 rfl) ?_
                  refine l_v rfl (q_load1 rfl c1_3 rfl (by first | exact H.cell 0 rfl rfl | exact H.cell 1 rfl rfl | exact H.cell 2 rfl rfl | exact H.cell 3 rfl rfl | exact H.cell 4 rfl rfl | exact H.cell 5 rfl rfl | exact H.cell 6 rfl rfl | exact H.cell 7 rfl rfl | exact H.cell 8 rfl rfl | exact H.cell 9 rfl rfl | exact H.cell 10 rfl rfl | exact H.cell 11 rfl rfl | exact H.cell 12 rfl rfl)) ?_
                  refine b_call rfl cb_21 rfl (Drop_ok (sinkX [_] H) hok.fit o.k) (fun v w hv => ?_)
                  obtain ⟨q, e, rfl, hat, H⟩ := hv
                  have H' := (liftX [_] H).dropN 1
                  have hok' := (hok.take o.k).mono (Nat.le_succ _)
                  have hgen' := hgen.take o.k
                  refine l_nil ?_
                  refine w_region ?_
                  refine l_pint rfl rfl ?_
                  first | refine l_v rfl (q_add rfl rfl rfl (by simp only [inK]; omega)) ?_ | refine l_pint rfl rfl ?_
                  refine l_pint rfl rfl ?_
                  refine l_nil ?_
                  refine ⟨by repeat' first | exact Agr.mix _ _ _ | exact Agr.refl _ _ | refine Agr.inner rfl ?_ | refine Agr.upd rfl ?_ | refine Agr.updL' rfl ?_, ?_⟩
                  first
                    | exact ⟨m - 1, (t + 1, _, sa, sc, sl, F'), by omega, ⟨by exact congrArg (Value.int IntKind.i64) (Int.natCast_succ t).symm, rfl, trivial⟩, by omega, hok', hgen', by omega, hgood, H'⟩
                    | exact ⟨m - 1, (t + 1, _, sa, sc, sl, F'), by omega, ⟨by exact congrArg (Value.int IntKind.i64) (Int.natCast_succ t).symm, rfl, trivial⟩, by omega, hok', hgen', by omega, hgood, (liftX [_] (H.dropN 2)).dropN 1⟩
                    | exact ⟨m - 1, (t + 1, _, a53, c53, sl ++ [q], q.own :: F'), by omega, ⟨by exact congrArg (Value.int IntKind.i64) (Int.natCast_succ t).symm, by exact congrArg (fun x => Value.slice a53 x c53) (by simp), trivial⟩, by omega, hok', hgen', by simp; omega, gen_good hgood hql hqn, gen_send_fin H⟩
                · try simp only [decide_eq_true_eq, decide_eq_false_iff_not, Bool.not_eq_true', Bool.not_eq_false', beq_iff_eq, beq_eq_false_iff_ne, bne_iff_ne, bne_eq_false_iff_eq, ne_eq, Int.not_lt, Int.not_le] at c9
                  refine w_seq ?_
                  refine w_region ?_
                  refine l_pbool rfl rfl ?_
                  refine l_pbool rfl rfl ?_
                  refine l_nil ?_
                  refine w_cond rfl (fun c10 => ?_) (fun c10 => ?_)
                  · try simp only [decide_eq_true_eq, decide_eq_false_iff_not, Bool.not_eq_true', Bool.not_eq_false', beq_iff_eq, beq_eq_false_iff_ne, bne_iff_ne, bne_eq_false_iff_eq, ne_eq, Int.not_lt, Int.not_le] at c10
                    refine w_region ?_
                    refine l_pptr rfl rfl ?_
                    refine l_v rfl (q_fieldAddr rfl fo41_1 rfl) ?_
                    refine l_v rfl (q_load1 rfl c1_3 rfl (by first | exact H.cell 0 rfl rfl | exact H.cell 1 rfl rfl | exact H.cell 2 rfl rfl | exact H.cell 3 rfl rfl | exact H.cell 4 rfl rfl | exact H.cell 5 rfl rfl | exact H.cell 6 rfl rfl | exact H.cell 7 rfl rfl | exact H.cell 8 rfl rfl | exact H.cell 9 rfl rfl | exact H.cell 10 rfl rfl | exact H.cell 11 rfl rfl | exact H.cell 12 rfl rfl)) ?_
                    refine l_v rfl (q_fieldAddr rfl fo41_2 rfl) ?_
                    refine l_v rfl (q_load1 rfl c1_3 rfl (by first | exact H.cell 0 rfl rfl | exact H.cell 1 rfl rfl | exact H.cell 2 rfl rfl | exact H.cell 3 rfl rfl | exact H.cell 4 rfl rfl | exact H.cell 5 rfl rfl | exact H.cell 6 rfl rfl | exact H.cell 7 rfl rfl | exact H.cell 8 rfl rfl | exact H.cell 9 rfl rfl | exact H.cell 10 rfl rfl | exact H.cell 11 rfl rfl | exact H.cell 12 rfl rfl)) ?_
                    refine b_call rfl cb_22 rfl (Turn_ok (sinkX [_] H) o.k o.at_ 0) (fun v w hv => ?_)
                    obtain ⟨rfl, H⟩ := hv
                    rw [turn_zero] at H
                    have H' := (liftX [_] H).dropN 1
                    have hok' := hok.mono (Nat.le_succ _)
                    have hgen' := hgen
                    refine l_nil ?_
                    refine w_region ?_
                    refine l_pint rfl rfl ?_
                    first | refine l_v rfl (q_add rfl rfl rfl (by simp only [inK]; omega)) ?_ | refine l_pint rfl rfl ?_
                    refine l_pint rfl rfl ?_
                    refine l_nil ?_
                    refine ⟨by repeat' first | exact Agr.mix _ _ _ | exact Agr.refl _ _ | refine Agr.inner rfl ?_ | refine Agr.upd rfl ?_ | refine Agr.updL' rfl ?_, ?_⟩
                    first
                      | exact ⟨m - 1, (t + 1, _, sa, sc, sl, F'), by omega, ⟨by exact congrArg (Value.int IntKind.i64) (Int.natCast_succ t).symm, rfl, trivial⟩, by omega, hok', hgen', by omega, hgood, H'⟩
                      | exact ⟨m - 1, (t + 1, _, sa, sc, sl, F'), by omega, ⟨by exact congrArg (Value.int IntKind.i64) (Int.natCast_succ t).symm, rfl, trivial⟩, by omega, hok', hgen', by omega, hgood, (liftX [_] (H.dropN 2)).dropN 1⟩
                      | exact ⟨m - 1, (t + 1, _, a53, c53, sl ++ [q], q.own :: F'), by omega, ⟨by exact congrArg (Value.int IntKind.i64) (Int.natCast_succ t).symm, by exact congrArg (fun x => Value.slice a53 x c53) (by simp), trivial⟩, by omega, hok', hgen', by simp; omega, gen_good hgood hql hqn, gen_send_fin H⟩
                  · try simp only [decide_eq_true_eq, decide_eq_false_iff_not, Bool.not_eq_true', Bool.not_eq_false', beq_iff_eq, beq_eq_false_iff_ne, bne_iff_ne, bne_eq_false_iff_eq, ne_eq, Int.not_lt, Int.not_le] at c10
                    refine w_seq ?_
                    refine w_region ?_
                    refine l_pbool rfl rfl ?_
                    refine l_pbool rfl rfl ?_
                    refine l_nil ?_
                    refine w_cond rfl (fun c11 => ?_) (fun c11 => ?_)
                    · try simp only [decide_eq_true_eq, decide_eq_false_iff_not, Bool.not_eq_true', Bool.not_eq_false', beq_iff_eq, beq_eq_false_iff_ne, bne_iff_ne, bne_eq_false_iff_eq, ne_eq, Int.not_lt, Int.not_le] at c11
                      refine w_region ?_
                      refine l_pptr rfl rfl ?_
                      refine l_v rfl (q_fieldAddr rfl fo41_1 rfl) ?_
                      refine l_v rfl (q_load1 rfl c1_3 rfl (by first | exact H.cell 0 rfl rfl | exact H.cell 1 rfl rfl | exact H.cell 2 rfl rfl | exact H.cell 3 rfl rfl | exact H.cell 4 rfl rfl | exact H.cell 5 rfl rfl | exact H.cell 6 rfl rfl | exact H.cell 7 rfl rfl | exact H.cell 8 rfl rfl | exact H.cell 9 rfl rfl | exact H.cell 10 rfl rfl | exact H.cell 11 rfl rfl | exact H.cell 12 rfl rfl)) ?_
                      refine l_v rfl (q_fieldAddr rfl fo41_2 rfl) ?_
                      refine l_v rfl (q_load1 rfl c1_3 rfl (by first | exact H.cell 0 rfl rfl | exact H.cell 1 rfl rfl | exact H.cell 2 rfl rfl | exact H.cell 3 rfl rfl | exact H.cell 4 rfl rfl | exact H.cell 5 rfl rfl | exact H.cell 6 rfl rfl | exact H.cell 7 rfl rfl | exact H.cell 8 rfl rfl | exact H.cell 9 rfl rfl | exact H.cell 10 rfl rfl | exact H.cell 11 rfl rfl | exact H.cell 12 rfl rfl)) ?_
                      refine b_call rfl cb_23 rfl (Swap_ok (sinkX [_] H) o.k o.at_) (fun v w hv => ?_)
                      obtain ⟨rfl, H⟩ := hv
                      have H' := (liftX [_] H).dropN 1
                      have hok' := (hok.swap o.k o.at_).mono (Nat.le_succ _)
                      have hgen' := hgen.swap o.k o.at_
                      refine l_nil ?_
                      refine w_region ?_
                      refine l_pint rfl rfl ?_
                      first | refine l_v rfl (q_add rfl rfl rfl (by simp only [inK]; omega)) ?_ | refine l_pint rfl rfl ?_
                      refine l_pint rfl rfl ?_
                      refine l_nil ?_
                      refine ⟨by repeat' first | exact Agr.mix _ _ _ | exact Agr.refl _ _ | refine Agr.inner rfl ?_ | refine Agr.upd rfl ?_ | refine Agr.updL' rfl ?_, ?_⟩
                      first
                        | exact ⟨m - 1, (t + 1, _, sa, sc, sl, F'), by omega, ⟨by exact congrArg (Value.int IntKind.i64) (Int.natCast_succ t).symm, rfl, trivial⟩, by omega, hok', hgen', by omega, hgood, H'⟩
                        | exact ⟨m - 1, (t + 1, _, sa, sc, sl, F'), by omega, ⟨by exact congrArg (Value.int IntKind.i64) (Int.natCast_succ t).symm, rfl, trivial⟩, by omega, hok', hgen', by omega, hgood, (liftX [_] (H.dropN 2)).dropN 1⟩
                        | exact ⟨m - 1, (t + 1, _, a53, c53, sl ++ [q], q.own :: F'), by omega, ⟨by exact congrArg (Value.int IntKind.i64) (Int.natCast_succ t).symm, by exact congrArg (fun x => Value.slice a53 x c53) (by simp), trivial⟩, by omega, hok', hgen', by simp; omega, gen_good hgood hql hqn, gen_send_fin H⟩
                    · try simp only [decide_eq_true_eq, decide_eq_false_iff_not, Bool.not_eq_true', Bool.not_eq_false', beq_iff_eq, beq_eq_false_iff_ne, bne_iff_ne, bne_eq_false_iff_eq, ne_eq, Int.not_lt, Int.not_le] at c11
                      refine w_seq ?_
                      refine w_region ?_
                      refine l_pbool rfl rfl ?_
                      refine l_pbool rfl rfl ?_
                      refine l_nil ?_
                      refine w_cond rfl (fun c12 => ?_) (fun c12 => ?_)
                      · try simp only [decide_eq_true_eq, decide_eq_false_iff_not, Bool.not_eq_true', Bool.not_eq_false', beq_iff_eq, beq_eq_false_iff_ne, bne_iff_ne, bne_eq_false_iff_eq, ne_eq, Int.not_lt, Int.not_le] at c12
                        refine w_region ?_
                        refine l_pptr rfl rfl ?_
                        refine b_call rfl cb_24 rfl (Clear_ok (sinkX [_] H)) (fun v w hv => ?_)
                        obtain ⟨rfl, H⟩ := hv
                        have H' := (liftX [_] H).dropN 1
                        have hok' := hok.clear.mono (Nat.le_succ _)
                        have hgen' := hgen.clear
                        refine l_nil ?_
                        refine w_region ?_
                        refine l_pint rfl rfl ?_
                        first | refine l_v rfl (q_add rfl rfl rfl (by simp only [inK]; omega)) ?_ | refine l_pint rfl rfl ?_
                        refine l_pint rfl rfl ?_
                        refine l_nil ?_
                        refine ⟨by repeat' first | exact Agr.mix _ _ _ | exact Agr.refl _ _ | refine Agr.inner rfl ?_ | refine Agr.upd rfl ?_ | refine Agr.updL' rfl ?_, ?_⟩
                        first
                          | exact ⟨m - 1, (t + 1, _, sa, sc, sl, F'), by omega, ⟨by exact congrArg (Value.int IntKind.i64) (Int.natCast_succ t).symm, rfl, trivial⟩, by omega, hok', hgen', by omega, hgood, H'⟩
                          | exact ⟨m - 1, (t + 1, _, sa, sc, sl, F'), by omega, ⟨by exact congrArg (Value.int IntKind.i64) (Int.natCast_succ t).symm, rfl, trivial⟩, by omega, hok', hgen', by omega, hgood, (liftX [_] (H.dropN 2)).dropN 1⟩
                          | exact ⟨m - 1, (t + 1, _, a53, c53, sl ++ [q], q.own :: F'), by omega, ⟨by exact congrArg (Value.int IntKind.i64) (Int.natCast_succ t).symm, by exact congrArg (fun x => Value.slice a53 x c53) (by simp), trivial⟩, by omega, hok', hgen', by simp; omega, gen_good hgood hql hqn, gen_send_fin H⟩
                      · try simp only [decide_eq_true_eq, decide_eq_false_iff_not, Bool.not_eq_true', Bool.not_eq_false', beq_iff_eq, beq_eq_false_iff_ne, bne_iff_ne, bne_eq_false_iff_eq, ne_eq, Int.not_lt, Int.not_le] at c12
                        have H' := H.drop1
                        have hok' := hok.mono (Nat.le_succ _)
                        have hgen' := hgen
                        refine w_skip ?_
                        refine w_region ?_
                        refine l_pint rfl rfl ?_
                        first | refine l_v rfl (q_add rfl rfl rfl (by simp only [inK]; omega)) ?_ | refine l_pint rfl rfl ?_
                        refine l_pint rfl rfl ?_
                        refine l_nil ?_
                        refine ⟨by repeat' first | exact Agr.mix _ _ _ | exact Agr.refl _ _ | refine Agr.inner rfl ?_ | refine Agr.upd rfl ?_ | refine Agr.updL' rfl ?_, ?_⟩
                        first
                          | exact ⟨m - 1, (t + 1, _, sa, sc, sl, F'), by omega, ⟨by exact congrArg (Value.int IntKind.i64) (Int.natCast_succ t).symm, rfl, trivial⟩, by omega, hok', hgen', by omega, hgood, H'⟩
                          | exact ⟨m - 1, (t + 1, _, sa, sc, sl, F'), by omega, ⟨by exact congrArg (Value.int IntKind.i64) (Int.natCast_succ t).symm, rfl, trivial⟩, by omega, hok', hgen', by omega, hgood, (liftX [_] (H.dropN 2)).dropN 1⟩
                          | exact ⟨m - 1, (t + 1, _, a53, c53, sl ++ [q], q.own :: F'), by omega, ⟨by exact congrArg (Value.int IntKind.i64) (Int.natCast_succ t).symm, by exact congrArg (fun x => Value.slice a53 x c53) (by simp), trivial⟩, by omega, hok', hgen', by simp; omega, gen_good hgood hql hqn, gen_send_fin H⟩
      · try simp only [decide_eq_true_eq, decide_eq_false_iff_not, Bool.not_eq_true', Bool.not_eq_false', beq_iff_eq, beq_eq_false_iff_ne, bne_iff_ne, bne_eq_false_iff_eq, ne_eq, Int.not_lt, Int.not_le] at c2
        refine w_exit ?_
        refine w_seq ?_
        refine w_region ?_
        refine l_pptr rfl rfl ?_
        refine b_call rfl cb_12 rfl (pool_ok H hok.fit (by have := hok.pl; omega)) (fun v w hv => ?_)
        obtain ⟨a1, c1', l1, rfl, hcon1, H⟩ := hv
        have hg1 := good_of H 8 2 rfl rfl hcon1 hok.fit.pool
        have hl1 : l1.length = st.pool.length := by simpa using congrArg List.length hcon1
        refine l_pslice rfl rfl ?_
        refine l_nil ?_
        refine w_seq ?_
        refine w_seq ?_
        refine w_region ?_
        refine l_pslice rfl rfl ?_
        refine l_v rfl (q_lenSlice rfl el_22 rfl) ?_
        refine l_pptr rfl rfl ?_
        refine b_call rfl cb_16 rfl (Len_ok (i := 0) H rfl rfl) (fun v w hv => ?_)
        obtain ⟨rfl, rfl⟩ := hv
        refine l_pbool rfl rfl ?_
        refine l_nil ?_
        refine w_cond rfl (fun c13 => ?_) (fun c13 => ?_)
        · try simp only [decide_eq_true_eq, decide_eq_false_iff_not, Bool.not_eq_true', Bool.not_eq_false', beq_iff_eq, beq_eq_false_iff_ne, bne_iff_ne, bne_eq_false_iff_eq, ne_eq, Int.not_lt, Int.not_le] at c13
          refine w_seq ?_
          refine w_region ?_
          refine l_pbool rfl rfl ?_
          refine l_nil ?_
          refine w_ret ?_
          refine fin1 (v := .bool _) rfl ?_
          first | exact absurd rfl c13 | exact (c13 trivial).elim
        · try simp only [decide_eq_true_eq, decide_eq_false_iff_not, Bool.not_eq_true', Bool.not_eq_false', beq_iff_eq, beq_eq_false_iff_ne, bne_iff_ne, bne_eq_false_iff_eq, ne_eq, Int.not_lt, Int.not_le] at c13
          refine w_skip ?_
          refine w_seq ?_
          refine w_seq ?_
          refine w_region ?_
          refine l_pint rfl rfl ?_
          refine l_nil ?_
          refine w_block ?_
          refine w_loopG (G := Nat) [4, 13, 110, 111, 112, 113, 114, 115, 116, 117, 118, 119, 120, 121, 122, 123, 124, 125, 126, 127, 128, 129, 130, 131] (fun i => [(13, .int .i64 ((i : Nat) : Int))]) (fun m i w => m + i = st.pool.length ∧ St W w (netL b st (row 31 3 a1 st.pool.length c1' (pks l1) :: Segs (l1.map Pk.own) :: row 31 3 sa sl.length sc (pks sl) :: blk b3 po.cells 31 :: F'))) (fun _ => rfl) ?_ ?_
          · exact ⟨st.pool.length, 0, ⟨rfl, trivial⟩, by omega, H⟩
          · rintro m i ρ1 w ⟨hmi, H⟩
            have hplb := hok.pl
            refine w_seq ?_
            refine w_seq ?_
            refine w_region ?_
            refine l_pint rfl rfl ?_
            refine l_pslice rfl rfl ?_
            refine l_v rfl (q_lenSlice rfl el_22 rfl) ?_
            refine l_pbool rfl rfl ?_
            refine l_nil ?_
            refine w_cond rfl (fun c14 => ?_) (fun c14 => ?_)
            · try simp only [decide_eq_true_eq, decide_eq_false_iff_not, Bool.not_eq_true', Bool.not_eq_false', beq_iff_eq, beq_eq_false_iff_ne, bne_iff_ne, bne_eq_false_iff_eq, ne_eq, Int.not_lt, Int.not_le] at c14
              obtain ⟨x, hx⟩ : ∃ x, l1[i]? = some x := ⟨_, List.getElem?_eq_getElem (by omega)⟩
              have hxm := List.mem_of_getElem? hx
              obtain ⟨bx, ox, hxa, _⟩ := pk_cells (H.rowInv (i := 7) rfl).2.2.2.2 hx
              refine w_skip ?_
              refine w_seq ?_
              refine w_block ?_
              refine w_seq ?_
              refine w_region ?_
              refine l_pslice rfl rfl ?_
              refine l_pslice rfl rfl ?_
              refine l_pint rfl rfl ?_
              refine l_v rfl (q_indexSliceA rfl el_22 rfl hxa rfl (by omega)) ?_
              refine l_v rfl (q_loadN (vs := [_, _, _]) rfl ag_31 rfl rfl (pk_cellsA hxa (H.rowInv (i := 7) rfl).2.2.2.2 hx)) ?_
              refine b_call rfl cb_29 rfl (was_ok (p := x) H (RdIn.row 9 rfl) rfl (hgood.up 11 rfl) (by omega) (good_segs 8 rfl hg1 x hxm).1 (hg1 x hxm).1) (fun v w hv => ?_)
              obtain ⟨r, rfl, hr, H⟩ := hv
              obtain ⟨p0, hp0m, hxc⟩ := con_mem hcon1 hxm
              simp only [Pk.con, Prod.mk.injEq] at hxc
              obtain ⟨y, hy, h1, h2⟩ := hgen.pool p0 hp0m
              have hys : ∃ q ∈ sl, q.to = x.to ∧ q.bs = x.bs := ⟨y, hy, h1.trans hxc.2.1.symm, h2.trans hxc.2.2.symm⟩
              obtain rfl : r = true := hr.2 hys
              have hgt := (hgen.came x.to x.bs).2 hys
              refine l_pbool rfl rfl ?_
              refine l_pbool rfl rfl ?_
              refine l_split 123 rfl (fun h123 => absurd h123 (by decide)) (fun h123 => ?_)
              try simp only [decide_eq_true_eq, decide_eq_false_iff_not, Bool.not_eq_true', Bool.not_eq_false', beq_iff_eq, beq_eq_false_iff_ne, bne_iff_ne, bne_eq_false_iff_eq, ne_eq, Int.not_lt, Int.not_le] at h123
              refine l_pptr rfl rfl ?_
              refine l_pslice rfl rfl ?_
              refine l_pint rfl rfl ?_
              refine l_v rfl (q_indexSliceA rfl el_22 rfl hxa rfl (by omega)) ?_
              refine l_v rfl (q_loadN (vs := [_, _, _]) rfl ag_31 rfl rfl (pk_cellsA hxa (H.rowInv (i := 7) rfl).2.2.2.2 hx)) ?_
              refine b_call rfl cb_30 rfl (Genuine_ok H x.fr x.to (good_segs 1 rfl hg1 x hxm).1 (hg1 x hxm).1) (fun v w hv => ?_)
              obtain ⟨rfl, H⟩ := hv
              rw [decide_eq_true hgt]
              refine l_pbool rfl rfl ?_
              refine l_pickF (v := .bool _) rfl rfl rfl ?_
              refine l_nil ?_
              refine w_cond rfl (fun c15 => ?_) (fun c15 => ?_)
              · try simp only [decide_eq_true_eq, decide_eq_false_iff_not, Bool.not_eq_true', Bool.not_eq_false', beq_iff_eq, beq_eq_false_iff_ne, bne_iff_ne, bne_eq_false_iff_eq, ne_eq, Int.not_lt, Int.not_le] at c15
                refine w_seq ?_
                refine w_region ?_
                refine l_pbool rfl rfl ?_
                refine l_nil ?_
                refine w_ret ?_
                refine fin1 (v := .bool _) rfl ?_
                exact absurd c15 (by decide)
              · try simp only [decide_eq_true_eq, decide_eq_false_iff_not, Bool.not_eq_true', Bool.not_eq_false', beq_iff_eq, beq_eq_false_iff_ne, bne_iff_ne, bne_eq_false_iff_eq, ne_eq, Int.not_lt, Int.not_le] at c15
                refine w_skip ?_
                refine w_region ?_
                refine l_pint rfl rfl ?_
                first | refine l_v rfl (q_add rfl rfl rfl (by simp only [inK]; omega)) ?_ | refine l_pint rfl rfl ?_
                refine l_pint rfl rfl ?_
                refine l_nil ?_
                refine ⟨by repeat' first | exact Agr.mix _ _ _ | exact Agr.refl _ _ | refine Agr.inner rfl ?_ | refine Agr.upd rfl ?_ | refine Agr.updL' rfl ?_, ?_⟩
                exact ⟨m - 1, i + 1, by omega, ⟨by exact congrArg (Value.int IntKind.i64) (Int.natCast_succ i).symm, trivial⟩, by omega, H⟩
            · try simp only [decide_eq_true_eq, decide_eq_false_iff_not, Bool.not_eq_true', Bool.not_eq_false', beq_iff_eq, beq_eq_false_iff_ne, bne_iff_ne, bne_eq_false_iff_eq, ne_eq, Int.not_lt, Int.not_le] at c14
              refine w_exit ?_
              refine w_seq ?_
              refine w_seq ?_
              refine w_region ?_
              refine l_pint rfl rfl ?_
              refine l_nil ?_
              refine w_block ?_
              refine w_loopG (G := Nat) [4, 14, 132, 133, 134, 135, 136, 137, 138, 139, 140, 141, 142, 143, 144] (fun i => [(14, .int .i64 ((i : Nat) : Int))]) (fun m i w => m + i = sl.length ∧ St W w (netL b st (row 31 3 a1 st.pool.length c1' (pks l1) :: Segs (l1.map Pk.own) :: row 31 3 sa sl.length sc (pks sl) :: blk b3 po.cells 31 :: F'))) (fun _ => rfl) ?_ ?_
              · exact ⟨sl.length, 0, ⟨rfl, trivial⟩, by omega, H⟩
              · rintro m i ρ1 w ⟨hmi, H⟩
                refine w_seq ?_
                refine w_seq ?_
                refine w_region ?_
                refine l_pint rfl rfl ?_
                refine l_pslice rfl rfl ?_
                refine l_v rfl (q_lenSlice rfl el_22 rfl) ?_
                refine l_pbool rfl rfl ?_
                refine l_nil ?_
                refine w_cond rfl (fun c16 => ?_) (fun c16 => ?_)
                · try simp only [decide_eq_true_eq, decide_eq_false_iff_not, Bool.not_eq_true', Bool.not_eq_false', beq_iff_eq, beq_eq_false_iff_ne, bne_iff_ne, bne_eq_false_iff_eq, ne_eq, Int.not_lt, Int.not_le] at c16
                  obtain ⟨x, hx⟩ : ∃ x, sl[i]? = some x := ⟨_, List.getElem?_eq_getElem (by omega)⟩
                  have hxm := List.mem_of_getElem? hx
                  obtain ⟨bx, ox, hxa, _⟩ := pk_cells (H.rowInv (i := 9) rfl).2.2.2.2 hx
                  refine w_skip ?_
                  refine w_seq ?_
                  refine w_block ?_
                  refine w_seq ?_
                  refine w_region ?_
                  refine l_pptr rfl rfl ?_
                  refine l_pslice rfl rfl ?_
                  refine l_pint rfl rfl ?_
                  refine l_v rfl (q_indexSliceA rfl el_22 rfl hxa rfl (by omega)) ?_
                  refine l_v rfl (q_loadN (vs := [_, _, _]) rfl ag_31 rfl rfl (pk_cellsA hxa (H.rowInv (i := 9) rfl).2.2.2.2 hx)) ?_
                  refine b_call rfl cb_30 rfl (Genuine_ok H x.fr x.to ((hgood x hxm).1.up 4 rfl) (hgood x hxm).2.1) (fun v w hv => ?_)
                  obtain ⟨rfl, H⟩ := hv
                  rw [decide_eq_true ((hgen.came x.to x.bs).2 ⟨x, hxm, rfl, rfl⟩)]
                  refine l_pbool rfl rfl ?_
                  refine l_nil ?_
                  refine w_cond rfl (fun c17 => ?_) (fun c17 => ?_)
                  · try simp only [decide_eq_true_eq, decide_eq_false_iff_not, Bool.not_eq_true', Bool.not_eq_false', beq_iff_eq, beq_eq_false_iff_ne, bne_iff_ne, bne_eq_false_iff_eq, ne_eq, Int.not_lt, Int.not_le] at c17
                    refine w_seq ?_
                    refine w_region ?_
                    refine l_pbool rfl rfl ?_
                    refine l_nil ?_
                    refine w_ret ?_
                    refine fin1 (v := .bool _) rfl ?_
                    exact absurd c17 (by decide)
                  · try simp only [decide_eq_true_eq, decide_eq_false_iff_not, Bool.not_eq_true', Bool.not_eq_false', beq_iff_eq, beq_eq_false_iff_ne, bne_iff_ne, bne_eq_false_iff_eq, ne_eq, Int.not_lt, Int.not_le] at c17
                    refine w_skip ?_
                    refine w_region ?_
                    refine l_pint rfl rfl ?_
                    first | refine l_v rfl (q_add rfl rfl rfl (by simp only [inK]; omega)) ?_ | refine l_pint rfl rfl ?_
                    refine l_pint rfl rfl ?_
                    refine l_nil ?_
                    refine ⟨by repeat' first | exact Agr.mix _ _ _ | exact Agr.refl _ _ | refine Agr.inner rfl ?_ | refine Agr.upd rfl ?_ | refine Agr.updL' rfl ?_, ?_⟩
                    exact ⟨m - 1, i + 1, by omega, ⟨by exact congrArg (Value.int IntKind.i64) (Int.natCast_succ i).symm, trivial⟩, by omega, H⟩
                · try simp only [decide_eq_true_eq, decide_eq_false_iff_not, Bool.not_eq_true', Bool.not_eq_false', beq_iff_eq, beq_eq_false_iff_ne, bne_iff_ne, bne_eq_false_iff_eq, ne_eq, Int.not_lt, Int.not_le] at c16
                  refine w_exit ?_
                  refine w_seq ?_
                  refine w_region ?_
                  refine l_v rfl (q_loadN (vs := [_, _, _]) rfl ag_31 rfl rfl (by first | exact H.cells 0 rfl | exact H.cells 1 rfl | exact H.cells 2 rfl | exact H.cells 3 rfl | exact H.cells 4 rfl | exact H.cells 5 rfl | exact H.cells 6 rfl | exact H.cells 7 rfl | exact H.cells 8 rfl | exact H.cells 9 rfl | exact H.cells 10 rfl | exact H.cells 11 rfl | exact H.cells 12 rfl)) ?_
                  refine b_call rfl cb_20 rfl (fit_ok H po.fr po.to (RdIn.ro hpo) hpol hpon) (fun v w hv => ?_)
                  obtain ⟨q, rfl, hqf, hqt, hqn, hql, _, H⟩ := hv
                  refine b_alloc rfl ze_31 rfl H (fun b15 w H => ?_)
                  first | refine b_store (cs' := [_, _, _]) rfl sz_31 rfl rfl rfl rfl rfl H 0 rfl rfl rfl (fun w H => ?_) | refine b_store (cs' := [_, _, _]) rfl sz_31 rfl rfl rfl rfl rfl H 1 rfl rfl rfl (fun w H => ?_) | refine b_store (cs' := [_, _, _]) rfl sz_31 rfl rfl rfl rfl rfl H 2 rfl rfl rfl (fun w H => ?_) | refine b_store (cs' := [_, _, _]) rfl sz_31 rfl rfl rfl rfl rfl H 3 rfl rfl rfl (fun w H => ?_) | refine b_store (cs' := [_, _, _]) rfl sz_31 rfl rfl rfl rfl rfl H 4 rfl rfl rfl (fun w H => ?_) | refine b_store (cs' := [_, _, _]) rfl sz_31 rfl rfl rfl rfl rfl H 5 rfl rfl rfl (fun w H => ?_) | refine b_store (cs' := [_, _, _]) rfl sz_31 rfl rfl rfl rfl rfl H 6 rfl rfl rfl (fun w H => ?_) | refine b_store (cs' := [_, _, _]) rfl sz_31 rfl rfl rfl rfl rfl H 7 rfl rfl rfl (fun w H => ?_) | refine b_store (cs' := [_, _, _]) rfl sz_31 rfl rfl rfl rfl rfl H 8 rfl rfl rfl (fun w H => ?_) | refine b_store (cs' := [_, _, _]) rfl sz_31 rfl rfl rfl rfl rfl H 9 rfl rfl rfl (fun w H => ?_) | refine b_store (cs' := [_, _, _]) rfl sz_31 rfl rfl rfl rfl rfl H 10 rfl rfl rfl (fun w H => ?_) | refine b_store (cs' := [_, _, _]) rfl sz_31 rfl rfl rfl rfl rfl H 11 rfl rfl rfl (fun w H => ?_) | refine b_store (cs' := [_, _, _]) rfl sz_31 rfl rfl rfl rfl rfl H 12 rfl rfl rfl (fun w H => ?_)
                  refine l_nil ?_
                  refine w_seq ?_
                  refine w_region ?_
                  refine l_pslice rfl rfl ?_
                  refine l_v rfl (q_loadN (vs := [_, _, _]) rfl ag_31 rfl rfl (by first | exact H.cells 0 rfl | exact H.cells 1 rfl | exact H.cells 2 rfl | exact H.cells 3 rfl | exact H.cells 4 rfl | exact H.cells 5 rfl | exact H.cells 6 rfl | exact H.cells 7 rfl | exact H.cells 8 rfl | exact H.cells 9 rfl | exact H.cells 10 rfl | exact H.cells 11 rfl | exact H.cells 12 rfl)) ?_
                  refine b_call rfl cb_29 rfl (was_ok (p := q) H (RdIn.row 11 rfl) rfl (hgood.up 13 rfl) (by omega) (RdIn.row 1 rfl) hql) (fun v w hv => ?_)
                  obtain ⟨r, rfl, hr, H⟩ := hv
                  refine l_pbool rfl rfl ?_
                  refine l_nil ?_
                  refine w_seq ?_
                  refine w_region ?_
                  refine l_pptr rfl rfl ?_
                  refine b_call rfl cb_16 rfl (Len_ok (i := 2) H rfl rfl) (fun v w hv => ?_)
                  obtain ⟨rfl, rfl⟩ := hv
                  refine l_pint rfl rfl ?_
                  refine l_nil ?_
                  refine w_seq ?_
                  refine w_region ?_
                  refine l_pptr rfl rfl ?_
                  refine l_v rfl (q_loadN (vs := [_, _, _]) rfl ag_31 rfl rfl (by first | exact H.cells 0 rfl | exact H.cells 1 rfl | exact H.cells 2 rfl | exact H.cells 3 rfl | exact H.cells 4 rfl | exact H.cells 5 rfl | exact H.cells 6 rfl | exact H.cells 7 rfl | exact H.cells 8 rfl | exact H.cells 9 rfl | exact H.cells 10 rfl | exact H.cells 11 rfl | exact H.cells 12 rfl)) ?_
                  refine b_call rfl cb_31 rfl (Inject_ok (sinkX [_, _] H) hok.fit q.fr q.to (RdIn.row 1 rfl) hql (by have := hok.pl; omega)) (fun v w hv => ?_)
                  obtain ⟨rfl, hv⟩ := hv
                  have he : layE st q.fr q.to q.n false = 0 := layE_0 (fun h => by simp at h) (hok.addr hqt) (by omega)
                  rw [he]
                  obtain ⟨_, a', pa, pcap, H⟩ := hv.resolve_left (fun h => h.1 he)
                  have hfit2 := fit_copy (pa := pa) (pcap := pcap) hok.fit (q := ⟨q.fr, q.to, a', q.n, q.n, q.bs⟩) hqn
                  obtain ⟨st2, e2⟩ : ∃ s, s = ({ st with pa := pa, pcap := pcap, pool := st.pool ++ [⟨q.fr, q.to, a', q.n, q.n, q.bs⟩] } : NetS) := ⟨_, rfl⟩
                  rw [← e2] at H hfit2
                  have hpool2 : st2.pool = st.pool ++ [⟨q.fr, q.to, a', q.n, q.n, q.bs⟩] := by rw [e2]
                  have hcame2 : st2.came = st.came := by rw [e2]
                  have hpl2 : st2.pool.length = st.pool.length + 1 := by rw [hpool2]; simp
                  refine l_pint rfl rfl ?_
                  refine l_nil ?_
                  refine w_seq ?_
                  refine w_region ?_
                  refine l_pptr rfl rfl ?_
                  refine l_pint rfl rfl ?_
                  refine b_call rfl cb_27 rfl (At_ok H hfit2 (st.pool.length : Int)) (fun v w hv => ?_)
                  obtain ⟨q9, e, rfl, hat9, H⟩ := hv
                  obtain ⟨rfl, p9, hp9, hq9⟩ := hat9.hit (i := st.pool.length) (by omega)
                  obtain rfl : (⟨q.fr, q.to, a', q.n, q.n, q.bs⟩ : Pk) = p9 := by rw [hpool2] at hp9; simpa using hp9
                  have hq9l := (H.rowInv (i := 0) rfl).1
                  have hsame9 : sameB q q9 = true := by rw [hq9]; simp [sameB]
                  refine l_ptup rfl rfl ?_
                  refine l_pagg rfl rfl ?_
                  refine l_pint rfl rfl ?_
                  refine b_alloc rfl ze_31 rfl H (fun b19 w H => ?_)
                  first | refine b_store (cs' := [_, _, _]) rfl sz_31 rfl rfl rfl rfl rfl H 0 rfl rfl rfl (fun w H => ?_) | refine b_store (cs' := [_, _, _]) rfl sz_31 rfl rfl rfl rfl rfl H 1 rfl rfl rfl (fun w H => ?_) | refine b_store (cs' := [_, _, _]) rfl sz_31 rfl rfl rfl rfl rfl H 2 rfl rfl rfl (fun w H => ?_) | refine b_store (cs' := [_, _, _]) rfl sz_31 rfl rfl rfl rfl rfl H 3 rfl rfl rfl (fun w H => ?_) | refine b_store (cs' := [_, _, _]) rfl sz_31 rfl rfl rfl rfl rfl H 4 rfl rfl rfl (fun w H => ?_) | refine b_store (cs' := [_, _, _]) rfl sz_31 rfl rfl rfl rfl rfl H 5 rfl rfl rfl (fun w H => ?_) | refine b_store (cs' := [_, _, _]) rfl sz_31 rfl rfl rfl rfl rfl H 6 rfl rfl rfl (fun w H => ?_) | refine b_store (cs' := [_, _, _]) rfl sz_31 rfl rfl rfl rfl rfl H 7 rfl rfl rfl (fun w H => ?_) | refine b_store (cs' := [_, _, _]) rfl sz_31 rfl rfl rfl rfl rfl H 8 rfl rfl rfl (fun w H => ?_) | refine b_store (cs' := [_, _, _]) rfl sz_31 rfl rfl rfl rfl rfl H 9 rfl rfl rfl (fun w H => ?_) | refine b_store (cs' := [_, _, _]) rfl sz_31 rfl rfl rfl rfl rfl H 10 rfl rfl rfl (fun w H => ?_) | refine b_store (cs' := [_, _, _]) rfl sz_31 rfl rfl rfl rfl rfl H 11 rfl rfl rfl (fun w H => ?_) | refine b_store (cs' := [_, _, _]) rfl sz_31 rfl rfl rfl rfl rfl H 12 rfl rfl rfl (fun w H => ?_)
                  refine l_pint rfl rfl ?_
                  refine l_nil ?_
                  refine w_seq ?_
                  refine w_region ?_
                  refine l_pint rfl rfl ?_
                  refine l_pbool rfl rfl ?_
                  refine l_pbool rfl rfl ?_
                  refine l_split 163 rfl (fun h163 => ?_) (fun h163 => absurd h163 (by decide))
                  try simp only [decide_eq_true_eq, decide_eq_false_iff_not, Bool.not_eq_true', Bool.not_eq_false', beq_iff_eq, beq_eq_false_iff_ne, bne_iff_ne, bne_eq_false_iff_eq, ne_eq, Int.not_lt, Int.not_le] at h163
                  refine l_pint rfl rfl ?_
                  refine l_pbool rfl rfl ?_
                  refine l_pickT (v := .bool _) rfl rfl rfl ?_
                  refine l_pbool rfl rfl ?_
                  refine l_split 167 rfl (fun h167 => ?_) (fun h167 => absurd h167 (by decide))
                  try simp only [decide_eq_true_eq, decide_eq_false_iff_not, Bool.not_eq_true', Bool.not_eq_false', beq_iff_eq, beq_eq_false_iff_ne, bne_iff_ne, bne_eq_false_iff_eq, ne_eq, Int.not_lt, Int.not_le] at h167
                  refine l_v rfl (q_loadN (vs := [_, _, _]) rfl ag_31 rfl rfl (by first | exact H.cells 0 rfl | exact H.cells 1 rfl | exact H.cells 2 rfl | exact H.cells 3 rfl | exact H.cells 4 rfl | exact H.cells 5 rfl | exact H.cells 6 rfl | exact H.cells 7 rfl | exact H.cells 8 rfl | exact H.cells 9 rfl | exact H.cells 10 rfl | exact H.cells 11 rfl | exact H.cells 12 rfl)) ?_
                  refine l_v rfl (q_loadN (vs := [_, _, _]) rfl ag_31 rfl rfl (by first | exact H.cells 0 rfl | exact H.cells 1 rfl | exact H.cells 2 rfl | exact H.cells 3 rfl | exact H.cells 4 rfl | exact H.cells 5 rfl | exact H.cells 6 rfl | exact H.cells 7 rfl | exact H.cells 8 rfl | exact H.cells 9 rfl | exact H.cells 10 rfl | exact H.cells 11 rfl | exact H.cells 12 rfl)) ?_
                  refine b_call rfl cb_15 rfl (Same_ok (p := q) (q := q9) H (RdIn.row 10 rfl) hql (RdIn.row 1 rfl) (by simpa using hq9l)) (fun v w hv => ?_)
                  obtain ⟨rfl, H⟩ := hv
                  rw [hsame9]
                  refine l_pickT (v := .bool _) rfl rfl rfl ?_
                  refine l_pbool rfl rfl ?_
                  refine l_split 172 rfl (fun h172 => ?_) (fun h172 => absurd h172 (by decide))
                  try simp only [decide_eq_true_eq, decide_eq_false_iff_not, Bool.not_eq_true', Bool.not_eq_false', beq_iff_eq, beq_eq_false_iff_ne, bne_iff_ne, bne_eq_false_iff_eq, ne_eq, Int.not_lt, Int.not_le] at h172
                  refine l_pptr rfl rfl ?_
                  refine l_v rfl (q_loadN (vs := [_, _, _]) rfl ag_31 rfl rfl (by first | exact H.cells 0 rfl | exact H.cells 1 rfl | exact H.cells 2 rfl | exact H.cells 3 rfl | exact H.cells 4 rfl | exact H.cells 5 rfl | exact H.cells 6 rfl | exact H.cells 7 rfl | exact H.cells 8 rfl | exact H.cells 9 rfl | exact H.cells 10 rfl | exact H.cells 11 rfl | exact H.cells 12 rfl)) ?_
                  refine b_call rfl cb_30 rfl (Genuine_ok (sinkX [_, _] H) q.fr q.to (RdIn.row 3 rfl) hql) (fun v w hv => ?_)
                  obtain ⟨rfl, H⟩ := hv
                  have hgr : decide ((kget (0, q.to, q.bs) st2.came).getD 0 > 0) = r := by
                    rw [Bool.eq_iff_iff, decide_eq_true_eq, hcame2, hgen.came, hr]
                  rw [hgr]
                  refine l_pbool rfl rfl ?_
                  refine l_v rfl (q_eqlBool rfl bo_4 rfl rfl) ?_
                  refine l_pickT (v := .bool _) rfl rfl rfl ?_
                  refine l_pbool rfl rfl ?_
                  refine l_split 179 rfl (fun h179 => ?_) (fun h179 => absurd h179 (by simp))
                  try simp only [decide_eq_true_eq, decide_eq_false_iff_not, Bool.not_eq_true', Bool.not_eq_false', beq_iff_eq, beq_eq_false_iff_ne, bne_iff_ne, bne_eq_false_iff_eq, ne_eq, Int.not_lt, Int.not_le] at h179
                  refine l_pptr rfl rfl ?_
                  refine b_call rfl cb_16 rfl (Len_ok (i := 0) H rfl rfl) (fun v w hv => ?_)
                  obtain ⟨rfl, rfl⟩ := hv
                  refine l_pint rfl rfl ?_
                  first | refine l_v rfl (q_add rfl rfl rfl (by simp only [inK]; omega)) ?_ | refine l_pint rfl rfl ?_
                  refine l_pbool rfl rfl ?_
                  refine l_pickT (v := .bool _) rfl rfl rfl ?_
                  refine l_pbool rfl rfl ?_
                  refine l_nil ?_
                  refine w_ret ?_
                  refine fin1 (v := .bool _) rfl ?_
                  refine ⟨congrArg Value.bool ?_, _, H⟩
                  simp [hpl2]

end Go.Proofs.Ytmgcmgfjaimlnaa
