/- The law's helper was, and what a net holds of what was sent. -/
import Derived.Test.YtmgcmgfjaimlnaaNet14
namespace Go.Proofs.Ytmgcmgfjaimlnaa
open Go.EW
attribute [local irreducible] EW.W EW.L EW.fin
set_option linter.unusedVariables false
set_option linter.unusedSimpArgs false
theorem was_ok {W w : World} {F : List Seg} (H : St W w F) {a : Option Addr} {n cap : Nat} {l : List Pk} (hr : RdIn W F a (pks l)) (hln : l.length = n) (hg : Good W F l) (hn : n * 40 ≤ 211106232532992) {p : Pk} (hp : RdIn W F p.a (p.bs.map B)) (hpl : p.bs.length = p.n) :
    Ok Try.prog 29 [.slice a n cap, pkv p].toArray w (fun v w' => ∃ r : Bool, v = .bool r ∧ (r = true ↔ ∃ q ∈ l, q.to = p.to ∧ q.bs = p.bs) ∧ St W w' F) := by
  refine enter (n := 32) (rs := #[.tmp 4]) Try.func29 rfl rfl rfl rfl ?_
  refine w_seq ?_
  refine w_region ?_
  refine b_box rfl rfl rfl H (fun b3 w H => ?_)
  refine l_pbool rfl rfl ?_
  refine l_nil ?_
  refine w_seq ?_
  refine w_seq ?_
  refine w_region ?_
  refine l_pint rfl rfl ?_
  refine l_nil ?_
  refine w_block ?_
  refine w_loopG (G := Nat) [4, 5, 6, 7, 8, 9, 10, 11, 12, 13, 14, 15, 16, 17, 18, 19, 20, 21, 22, 23, 24, 25, 26, 27, 28, 29, 30, 31] (fun i => [(5, .int .i64 ((i : Nat) : Int))]) (fun m i w => m + i = n ∧ (∀ j q, j < i → l[j]? = some q → ¬ (q.to = p.to ∧ q.bs = p.bs)) ∧ St W w (blk b3 p.cells 31 :: F)) (fun _ => rfl) ?_ ?_
  · exact ⟨n, 0, ⟨rfl, trivial⟩, rfl, fun j q h => by omega, H⟩
  · rintro m i ρ1 w ⟨hi, hno, H⟩
    refine w_seq ?_
    refine w_seq ?_
    refine w_region ?_
    refine l_pint rfl rfl ?_
    refine l_pslice rfl rfl ?_
    refine l_v rfl (q_lenSlice rfl el_22 rfl) ?_
    refine l_pbool rfl rfl ?_
    refine l_nil ?_
    refine w_cond rfl (fun c1 => ?_) (fun c1 => ?_)
    · try simp only [decide_eq_true_eq, decide_eq_false_iff_not, Bool.not_eq_true', Bool.not_eq_false', beq_iff_eq, beq_eq_false_iff_ne, bne_iff_ne, bne_eq_false_iff_eq, ne_eq, Int.not_lt, Int.not_le] at c1
      obtain ⟨q, hq⟩ : ∃ q, l[i]? = some q := ⟨_, List.getElem?_eq_getElem (by omega)⟩
      have hqm := List.mem_of_getElem? hq
      obtain ⟨b1, o1, hqa, _⟩ := pk_cells (hr.use H 1 rfl) hq
      refine w_skip ?_
      refine w_seq ?_
      refine w_block ?_
      refine w_seq ?_
      refine w_drawT [] [4, 6, 13, 14, 16, 17] [(0, 0), (1, 0), (2, 0), (3, 0), (4, 1), (5, 0), (6, 1), (7, 0), (8, 0), (9, 0), (10, 0), (11, 0), (12, 0), (13, 1), (14, 1), (15, 0), (16, 1), (17, 1), (18, 0), (19, 0)] mixed (by kernel_rfl) (fun _ _ _ h => fin_panic h) H (fun H => ?_)
      refine r_pslice rfl rfl rfl ?_
      refine r_pint rfl rfl rfl ?_
      refine r_w rfl rfl (fun w => q_indexSliceA rfl el_22 rfl hqa rfl (by omega)) ?_
      refine r_w rfl rfl (fun w => q_fieldAddr rfl fo31_1 rfl) ?_
      refine r_v rfl rfl (fun w hS => q_load1 rfl c1_3 rfl ((pk_cellsA hqa (hr.use hS 1 rfl) hq).get 1 _ rfl)) ?_
      refine r_w rfl rfl (fun w => q_fieldAddr rfl fo31_1 rfl) ?_
      refine r_v rfl rfl (fun w hS => q_load1 rfl c1_3 rfl (by first | exact hS.cell 0 rfl rfl | exact hS.cell 1 rfl rfl | exact hS.cell 2 rfl rfl | exact hS.cell 3 rfl rfl | exact hS.cell 4 rfl rfl | exact hS.cell 5 rfl rfl | exact hS.cell 6 rfl rfl | exact hS.cell 7 rfl rfl | exact hS.cell 8 rfl rfl | exact hS.cell 9 rfl rfl)) ?_
      refine r_pbool rfl rfl rfl ?_
      refine r_pbool rfl rfl rfl ?_
      refine r_split 20 rfl (fun h20 => ?_) (fun h20 => ?_)
      · try simp only [decide_eq_true_eq, decide_eq_false_iff_not, Bool.not_eq_true', Bool.not_eq_false', beq_iff_eq, beq_eq_false_iff_ne, bne_iff_ne, bne_eq_false_iff_eq, ne_eq, Int.not_lt, Int.not_le] at h20
        refine r_pslice rfl rfl rfl ?_
        refine r_pint rfl rfl rfl ?_
        refine r_w rfl rfl (fun w => q_indexSliceA rfl el_22 rfl hqa rfl (by omega)) ?_
        refine r_w rfl rfl (fun w => q_fieldAddr rfl fo31_2 rfl) ?_
        refine r_v rfl rfl (fun w hS => q_load1 rfl c1_29 rfl ((pk_cellsA hqa (hr.use hS 1 rfl) hq).get 2 _ rfl)) ?_
        refine r_v rfl rfl (fun w hS => q_bytesStr rfl by_29 st_9 rfl ((hg q hqm).1.use hS 1 rfl) (hg q hqm).2.1) ?_
        refine r_w rfl rfl (fun w => q_fieldAddr rfl fo31_2 rfl) ?_
        refine r_v rfl rfl (fun w hS => q_load1 rfl c1_29 rfl (by first | exact hS.cell 0 rfl rfl | exact hS.cell 1 rfl rfl | exact hS.cell 2 rfl rfl | exact hS.cell 3 rfl rfl | exact hS.cell 4 rfl rfl | exact hS.cell 5 rfl rfl | exact hS.cell 6 rfl rfl | exact hS.cell 7 rfl rfl | exact hS.cell 8 rfl rfl | exact hS.cell 9 rfl rfl)) ?_
        refine r_v rfl rfl (fun w hS => q_bytesStr rfl by_29 st_9 rfl (hp.use hS 1 rfl) hpl) ?_
        refine r_pbool rfl rfl rfl ?_
        refine r_pickT (v := .bool _) rfl rfl rfl rfl ?_
        refine r_nil ?_
        refine w_cond rfl (fun c2 => ?_) (fun c2 => ?_)
        · try simp only [decide_eq_true_eq, decide_eq_false_iff_not, Bool.not_eq_true', Bool.not_eq_false', beq_iff_eq, beq_eq_false_iff_ne, bne_iff_ne, bne_eq_false_iff_eq, ne_eq, Int.not_lt, Int.not_le] at c2
          refine w_seq ?_
          refine w_region ?_
          refine l_pbool rfl rfl ?_
          refine l_nil ?_
          refine w_ret ?_
          refine fin1 (v := .bool _) rfl ?_
          refine ⟨true, rfl, ⟨fun _ => ⟨q, hqm, h20, ?_⟩, fun _ => rfl⟩, H.erase 0⟩
          simp only [ByteArray.toList_eq, ba_eq] at c2
          exact c2
        · try simp only [decide_eq_true_eq, decide_eq_false_iff_not, Bool.not_eq_true', Bool.not_eq_false', beq_iff_eq, beq_eq_false_iff_ne, bne_iff_ne, bne_eq_false_iff_eq, ne_eq, Int.not_lt, Int.not_le] at c2
          refine w_skip ?_
          refine w_region ?_
          refine l_pint rfl rfl ?_
          first | refine l_v rfl (q_add rfl rfl rfl (by simp only [inK]; omega)) ?_ | refine l_pint rfl rfl ?_
          refine l_pint rfl rfl ?_
          refine l_nil ?_
          refine ⟨by repeat' first | exact Agr.mix _ _ _ | exact Agr.refl _ _ | refine Agr.inner rfl ?_ | refine Agr.upd rfl ?_ | refine Agr.updL' rfl ?_, ?_⟩
          refine ⟨m - 1, i + 1, by omega, ⟨by exact congrArg (Value.int IntKind.i64) (Int.natCast_succ i).symm, trivial⟩, by omega, ?_, H⟩
          intro j q' hj hq'
          rcases Nat.lt_or_eq_of_le (Nat.le_of_lt_succ hj) with hj | rfl
          · exact hno j q' hj hq'
          · obtain rfl := Option.some.inj (hq.symm.trans hq')
            intro h
            first | exact absurd h.1 h20 | exact absurd ((ByteArray.toList_eq).2 ((ba_eq _ _).2 h.2)) c2 | (simp only [ByteArray.toList_eq, ba_eq] at c2; exact c2 h.2)
      · try simp only [decide_eq_true_eq, decide_eq_false_iff_not, Bool.not_eq_true', Bool.not_eq_false', beq_iff_eq, beq_eq_false_iff_ne, bne_iff_ne, bne_eq_false_iff_eq, ne_eq, Int.not_lt, Int.not_le] at h20
        refine r_no rfl rfl ?_
        refine r_no rfl rfl ?_
        refine r_no rfl rfl ?_
        refine r_no rfl rfl ?_
        refine r_no1 rfl rfl ?_
        refine r_no1 rfl rfl ?_
        refine r_no rfl rfl ?_
        refine r_no1 rfl rfl ?_
        refine r_no1 rfl rfl ?_
        refine r_no rfl rfl ?_
        refine r_pickF (v := .bool _) rfl rfl rfl rfl ?_
        refine r_nil ?_
        refine w_cond_f rfl ?_
        refine w_skip ?_
        refine w_region ?_
        refine l_pint rfl rfl ?_
        first | refine l_v rfl (q_add rfl rfl rfl (by simp only [inK]; omega)) ?_ | refine l_pint rfl rfl ?_
        refine l_pint rfl rfl ?_
        refine l_nil ?_
        refine ⟨by repeat' first | exact Agr.mix _ _ _ | exact Agr.refl _ _ | refine Agr.inner rfl ?_ | refine Agr.upd rfl ?_ | refine Agr.updL' rfl ?_, ?_⟩
        refine ⟨m - 1, i + 1, by omega, ⟨by exact congrArg (Value.int IntKind.i64) (Int.natCast_succ i).symm, trivial⟩, by omega, ?_, H⟩
        intro j q' hj hq'
        rcases Nat.lt_or_eq_of_le (Nat.le_of_lt_succ hj) with hj | rfl
        · exact hno j q' hj hq'
        · obtain rfl := Option.some.inj (hq.symm.trans hq')
          intro h
          first | exact absurd h.1 h20 | exact absurd ((ByteArray.toList_eq).2 ((ba_eq _ _).2 h.2)) c2 | (simp only [ByteArray.toList_eq, ba_eq] at c2; exact c2 h.2)
    · try simp only [decide_eq_true_eq, decide_eq_false_iff_not, Bool.not_eq_true', Bool.not_eq_false', beq_iff_eq, beq_eq_false_iff_ne, bne_iff_ne, bne_eq_false_iff_eq, ne_eq, Int.not_lt, Int.not_le] at c1
      refine w_exit ?_
      refine w_seq ?_
      refine w_region ?_
      refine l_pbool rfl rfl ?_
      refine l_nil ?_
      refine w_ret ?_
      refine fin1 (v := .bool _) rfl ?_
      refine ⟨false, rfl, ⟨fun h => absurd h (by decide), ?_⟩, H.erase 0⟩
      rintro ⟨q, hqm, h⟩
      obtain ⟨j, hj⟩ := List.mem_iff_getElem?.1 hqm
      have hjl := (List.getElem?_eq_some_iff.1 hj).1
      exact absurd h (hno j q (by omega) hj)


theorem kgetI_cons (k : Ky) (p : Ky × Int) (l : List (Ky × Int)) (i : Nat) : kgetI k (p :: l) i = if p.1 = k then some (i, p.2) else kgetI k l (i + 1) := by
  obtain ⟨a, b⟩ := p
  by_cases h : a = k <;> simp [kgetI, h]
theorem kgetI_shift (k : Ky) : ∀ (l : List (Ky × Int)) (i : Nat), kgetI k l (i + 1) = (kgetI k l i).map (fun p => (p.1 + 1, p.2))
  | [], i => rfl
  | p :: l, i => by
    rw [kgetI_cons, kgetI_cons]
    split
    · rfl
    · rw [kgetI_shift k l (i + 1)]
theorem updK_nil (k : Ky) (v : Int) : updK k v [] = [(k, v)] := rfl
theorem updK_cons (k : Ky) (v : Int) (p : Ky × Int) (l : List (Ky × Int)) : updK k v (p :: l) = if p.1 = k then (k, v) :: l else p :: updK k v l := by
  unfold updK midK idxK
  rw [kgetI_cons]
  by_cases h : p.1 = k
  · rw [if_pos h, if_pos h]; rfl
  · rw [if_neg h, if_neg h, kgetI_shift]
    cases kgetI k l 0 with
    | none => simp
    | some q => simp
theorem kget_cons (k : Ky) (p : Ky × Int) (l : List (Ky × Int)) : kget k (p :: l) = if p.1 = k then some p.2 else kget k l := by
  unfold kget
  rw [List.find?_cons]
  by_cases h : p.1 = k <;> simp [h]
theorem kget_updK (k k' : Ky) (v : Int) : ∀ l : List (Ky × Int), kget k (updK k' v l) = if k' = k then some v else kget k l
  | [] => by rw [updK_nil, kget_cons]
  | p :: l => by
    rw [updK_cons, kget_cons]
    by_cases h1 : p.1 = k'
    · rw [if_pos h1, kget_cons]
      by_cases h2 : k' = k
      · rw [if_pos h2, if_pos h2]
      · rw [if_neg h2, if_neg h2, if_neg (fun h => h2 (h1.symm.trans h))]
    · rw [if_neg h1, kget_cons, kget_updK k k' v l]
      by_cases h2 : p.1 = k
      · rw [if_pos h2, if_pos h2, if_neg (fun h => h1 (h2.trans h.symm))]
      · rw [if_neg h2, if_neg h2]
/-- what was sent, and what a net holds of it -/
structure Gen (st : NetS) (sl : List Pk) : Prop where
  pool : ∀ p ∈ st.pool, ∃ q ∈ sl, q.to = p.to ∧ q.bs = p.bs
  came : ∀ to bs, (kget (0, to, bs) st.came).getD 0 > 0 ↔ ∃ q ∈ sl, q.to = to ∧ q.bs = bs
theorem Gen.new (pm cm : Nat) : Gen (newS 3 2 pm cm) [] := ⟨by simp [newS], fun to bs => by simp [newS, kget]⟩
theorem Gen.send {st : NetS} {sl : List Pk} {i : Nat} (h : Gen st sl) (hf : st.few i) (q : Pk) (a' pa : Option Addr) (pcap : Nat) (a'' ra : Option Addr) (rcap : Nat) : Gen (sendS st q.fr q.to q.n q.bs a' pa pcap a'' ra rcap) (sl ++ [q]) := by
  refine ⟨?_, ?_⟩
  · intro p hp
    simp only [sendS, List.mem_append, List.mem_singleton] at hp
    rcases hp with hp | rfl
    · obtain ⟨r, hr, he⟩ := h.pool p hp
      exact ⟨r, List.mem_append_left _ hr, he⟩
    · exact ⟨q, by simp, rfl, rfl⟩
  · intro to bs
    simp only [sendS, kget_updK]
    have hk := kget_few hf (0, q.to, q.bs)
    split
    · rename_i he
      simp only [Prod.mk.injEq, true_and] at he
      constructor
      · intro _; exact ⟨q, by simp, he.1, he.2⟩
      · intro _; simp only [Option.getD_some]; omega
    · rename_i he
      rw [h.came]
      constructor
      · rintro ⟨r, hr, h2⟩; exact ⟨r, List.mem_append_left _ hr, h2⟩
      · rintro ⟨r, hr, h2⟩
        rcases List.mem_append.1 hr with hr | hr
        · exact ⟨r, hr, h2⟩
        · obtain rfl := List.mem_singleton.1 hr
          exact absurd (by simp [h2.1, h2.2]) he
theorem Gen.sub {st st' : NetS} {sl : List Pk} (h : Gen st sl) (hp : ∀ p ∈ st'.pool, p ∈ st.pool) (hc : st'.came = st.came) : Gen st' sl := ⟨fun p hm => h.pool p (hp p hm), fun to bs => by rw [hc]; exact h.came to bs⟩
theorem Gen.take {st : NetS} {sl : List Pk} (h : Gen st sl) (k : Int) : Gen (takeS st k) sl := by
  unfold takeS; split
  · exact h.sub (fun p hp => List.mem_of_mem_eraseIdx hp) rfl
  · exact h
theorem Gen.swap {st : NetS} {sl : List Pk} (h : Gen st sl) (i k : Int) : Gen (swapS st i k) sl := by
  unfold swapS; split
  · exact h.sub (fun p hp => (swapL_perm _ _ _).mem_iff.1 hp) rfl
  · exact h
theorem Gen.clear {st : NetS} {sl : List Pk} (h : Gen st sl) : Gen (clearS st) sl := h.sub (fun p hp => by simp [clearS] at hp) rfl
theorem Gen.copy {st : NetS} {sl : List Pk} (h : Gen st sl) {p q : Pk} (hp : p ∈ st.pool) (hq : q.con = p.con) (pa : Option Addr) (pcap : Nat) : Gen { st with pa, pcap, pool := st.pool ++ [q] } sl := by
  refine ⟨?_, h.came⟩
  intro r hr
  simp only [List.mem_append, List.mem_singleton] at hr
  rcases hr with hr | rfl
  · exact h.pool r hr
  · obtain ⟨x, hx, h1, h2⟩ := h.pool p hp
    simp only [Pk.con, Prod.mk.injEq] at hq
    exact ⟨x, hx, h1.trans hq.2.1.symm, h2.trans hq.2.2.symm⟩
theorem NetOk.copy {st : NetS} {i : Nat} (h : NetOk st i) {q : Pk} (hq : q.n ≤ 32768) (ha : adr q.to) (pa : Option Addr) (pcap : Nat) : NetOk { st with pa, pcap, pool := st.pool ++ [q] } (i + 1) := by
  refine ⟨h.cl, h.nd, ?_, h.record, ?_, Nat.le_succ_of_le h.rl, (h.mono (Nat.le_succ i)).few⟩
  · intro p hp
    simp only [List.mem_append, List.mem_singleton] at hp
    rcases hp with hp | rfl
    · exact h.pool p hp
    · exact ⟨hq, ha⟩
  · have := h.pl
    simp only [List.length_append, List.length_singleton]; omega
theorem turn_zero (st : NetS) (k j : Int) : turnS st k j 0 = st := by
  unfold turnS; split
  · rename_i p hp
    split
    · rename_i hc
      have e : turnL st.pool k.toNat j.toNat 0 = st.pool := by
        unfold turnL
        rw [hp]
        simp only [UInt8.xor_zero]
        have e2 : p.bs.set j.toNat (p.bs.getD j.toNat 0) = p.bs := by
          by_cases hj : j.toNat < p.bs.length
          · have : p.bs.getD j.toNat 0 = p.bs[j.toNat] := by simp [List.getD, hj]
            rw [this, List.set_getElem_self]
          · exact List.set_eq_of_length_le (by omega)
        rw [e2]
        obtain ⟨_, rfl⟩ := List.getElem?_eq_some_iff.1 hp
        exact List.set_getElem_self _
      rw [e]
    · rfl
  · rfl

end Go.Proofs.Ytmgcmgfjaimlnaa
