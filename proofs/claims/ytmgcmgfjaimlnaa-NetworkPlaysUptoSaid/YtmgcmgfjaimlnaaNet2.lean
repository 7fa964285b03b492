/- The network's Send does what its contract says, of every net that is laid in owned memory. -/
import Derived.Test.YtmgcmgfjaimlnaaNet1
namespace Go.Proofs.Ytmgcmgfjaimlnaa
open Go.EW
attribute [local irreducible] EW.W EW.L EW.fin
set_option linter.unusedVariables false
set_option linter.unusedSimpArgs false
theorem sink7 {W w : World} {b : Nat} {st : NetS} {s : Seg} {F : List Seg} (H : St W w (s :: netL b st F)) : St W w (netL b st (s :: F)) :=
  H.perm (show (s :: ([_, _, _, _, _, _, _] ++ F)).Perm ([_, _, _, _, _, _, _] ++ s :: F) from List.perm_middle.symm)
theorem lift7 {W w : World} {b : Nat} {st : NetS} {s : Seg} {F : List Seg} (H : St W w (netL b st (s :: F))) : St W w (s :: netL b st F) :=
  H.perm (show ([_, _, _, _, _, _, _] ++ s :: F).Perm (s :: ([_, _, _, _, _, _, _] ++ F)) from List.perm_middle)
/-- how often each was sent: never more than T -/
def NetS.few (s : NetS) (T : Nat) : Prop := ∀ p ∈ s.came, 1 ≤ p.2 ∧ p.2 ≤ T
def sendS (st : NetS) (fr to : Int) (n : Nat) (bs : List UInt8) (a' pa : Option Addr) (pcap : Nat) (a'' ra : Option Addr) (rcap : Nat) : NetS :=
  { st with
    pa, pcap, ra, rcap
    pool := st.pool ++ [⟨fr, to, a', n, n, bs⟩]
    record := if (kget (fr, to, bs) st.place).isSome then st.record else st.record ++ [⟨fr, to, a'', n, n, bs⟩]
    place := if (kget (fr, to, bs) st.place).isSome then st.place else st.place ++ [((fr, to, bs), (st.record.length : Int))]
    came := updK (0, to, bs) ((kget (0, to, bs) st.came).getD 0 + 1) st.came }
theorem kget_few {st : NetS} {T : Nat} (h : st.few T) (k : Ky) : 0 ≤ (kget k st.came).getD 0 ∧ (kget k st.came).getD 0 ≤ T := by
  cases hl : kget k st.came with
  | none => simp
  | some v =>
    simp only [kget, Option.map_eq_some_iff] at hl
    obtain ⟨p, hp, rfl⟩ := hl
    have := h p (List.mem_of_find?_eq_some hp)
    simp only [Option.getD_some]
    omega
theorem layE_small {st : NetS} {fr to : Int} {n : Nat} {f : Bool} (h : layE st fr to n f = 0) : n ≤ 32768 := by
  unfold layE at h
  split at h
  · simp at h
  split at h
  · simp at h
  omega
def SE (W : World) (S0 : List Seg) (cm : Nat) (l : List (Ky × Int)) (k : Ky) (w : World) : Prop := Sx W S0 w ∧ ∃ l', (l' = l ∨ l' = midK k l) ∧ Sx W [kmap cm l'] w
theorem q_lookupSE {P : Program} {W w : World} {e : Operand → Value} {o : Oper} {M T E : TypeId} {x i : Operand} {b : Nat} {l : List (Ky × Int)} {k : Ky} {S0 : List Seg} (ho : o.op = .lookup M x i false) (hM : mapB P M T E = true) (hT : kyB P T = true) (hz : zeroV P E = some (.int .i64 0))
    (hx : e x = .map (some b)) (hi : e i = kcv k) (hS : SE W S0 b l k w) : (execOp e o).run P w = .ok (.value (.int .i64 ((kget k l).getD 0))) w := by
  obtain ⟨_, l', hl', hs⟩ := hS
  have := q_lookup1 (P := P) ho hM hT hz hx hi (hs.heapM 0 rfl)
  rw [this]
  rcases hl' with rfl | rfl
  · rfl
  rw [kget_midK]
theorem own_snoc (l : List Pk) (p : Pk) : (l ++ [p]).map Pk.own = l.map Pk.own ++ [p.own] := by simp
theorem pks_snoc (l : List Pk) (p : Pk) : pks (l ++ [p]) = pks l ++ p.cells := by simp [pks]
theorem send_new {W w : World} {F : List Seg} {b x1 x2 x3 T1 T2 T3 : Nat} {c1 c2 c3 : List Value} {st : NetS} {fr to : Int} {n : Nat} {bs : List UInt8} {a' pa a'' ra : Option Addr} {pcap rcap : Nat} (hk : kget (fr, to, bs) st.place = none)
    (H : St W w (kmap st.cm (updK (0, to, bs) ((kget (0, to, bs) st.came).getD 0 + 1) st.came) :: blk0 x1 c1 T1 :: row 5 1 a'' n n (bs.map B) :: blk x2 c2 T2 ::
      blk b [.int .i64 st.nodes, .int .i64 st.clients, .slice pa (st.pool ++ [(⟨fr, to, a', n, n, bs⟩ : Pk)]).length pcap, .slice ra (st.record.length + 1) rcap, .map (some st.pm), .map (some st.cm)] 84 ::
      row 31 3 pa (st.pool ++ [(⟨fr, to, a', n, n, bs⟩ : Pk)]).length pcap (pks (st.pool ++ [⟨fr, to, a', n, n, bs⟩])) :: Segs ((st.pool ++ [(⟨fr, to, a', n, n, bs⟩ : Pk)]).map Pk.own) ::
      row 31 3 ra (st.record.length + 1) rcap (pks st.record ++ [.int .i64 fr, .int .i64 to, .slice a'' n n]) :: Segs (st.record.map Pk.own) :: kmap st.pm (st.place ++ [((fr, to, bs), (st.record.length : Int))]) :: blk x3 c3 T3 :: F)) :
    St W w (netL b (sendS st fr to n bs a' pa pcap a'' ra rcap) F) := by
  have H1 := St.snocseg.1 (H.pick [8, 2, 4, 5, 6, 7, 9, 0] (pre := [_, _, _, _, _, _, _, _, _, _, _]) rfl rfl)
  have H2 := H1.pick [1, 2, 3, 4, 0, 5, 6] (pre := [_, _, _, _, _, _, _]) rfl rfl
  unfold netL NetS.cells sendS
  simp only [hk, Option.isSome_none, Bool.false_eq_true, if_false, own_snoc, pks_snoc, List.length_append, List.length_singleton] at H2 ⊢
  exact H2
theorem send_old {W w : World} {F : List Seg} {b x2 x3 T2 T3 : Nat} {c2 c3 : List Value} {st : NetS} {fr to : Int} {n : Nat} {bs : List UInt8} {a' pa : Option Addr} {pcap : Nat} (hk : (kget (fr, to, bs) st.place).isSome = true)
    (H : St W w (kmap st.cm (updK (0, to, bs) ((kget (0, to, bs) st.came).getD 0 + 1) st.came) :: blk x2 c2 T2 :: blk b (NetS.cells { st with pa, pcap, pool := st.pool ++ [⟨fr, to, a', n, n, bs⟩] }) 84 ::
      row 31 3 pa (st.pool ++ [(⟨fr, to, a', n, n, bs⟩ : Pk)]).length pcap (pks (st.pool ++ [⟨fr, to, a', n, n, bs⟩])) :: Segs ((st.pool ++ [(⟨fr, to, a', n, n, bs⟩ : Pk)]).map Pk.own) ::
      row 31 3 st.ra st.record.length st.rcap (pks st.record) :: Segs (st.record.map Pk.own) :: kmap st.pm st.place :: blk x3 c3 T3 :: F)) :
    St W w (netL b (sendS st fr to n bs a' pa pcap none st.ra st.rcap) F) := by
  have H2 := H.pick [2, 3, 4, 5, 6, 7, 0] (pre := [_, _, _, _, _, _, _, _, _]) rfl rfl
  unfold netL NetS.cells sendS
  unfold NetS.cells at H2
  simp only [hk, if_true] at H2 ⊢
  exact H2
theorem Send_ok {W w : World} {F : List Seg} {b : Nat} {st : NetS} (H : St W w (netL b st F)) (hfit : st.fit) {T : Nat} (hfew : st.few T) (hT : T < 4611686018427387904) (fr to : Int) {a : Option Addr} {n cap : Nat} {bs : List UInt8} (hr : RdIn W F a (bs.map B)) (hl : bs.length = n) (hroom : (st.pool.length + 1) * 40 ≤ 211106232532992) (hrec : (st.record.length + 1) * 40 ≤ 211106232532992) :
    Ok Try.prog 19 [.pointer (some ⟨b, 0, none⟩), .agg #[.int .i64 fr, .int .i64 to, .slice a n cap]].toArray w (fun v w' => v = .int .i64 (layE st fr to n true) ∧
      ((layE st fr to n true ≠ 0 ∧ St W w' (netL b st F)) ∨ (layE st fr to n true = 0 ∧ ∃ a' pa pcap a'' ra rcap, St W w' (netL b (sendS st fr to n bs a' pa pcap a'' ra rcap) F)))) := by
  have hkf := kget_few hfew (0, to, bs)
  obtain ⟨u, hu⟩ := midK_idx (0, to, bs) st.came
  refine enter (n := 70) (rs := #[.tmp 4]) Try.func19 rfl rfl rfl rfl ?_
  refine w_seq ?_
  refine w_region ?_
  refine b_box rfl rfl rfl H (fun b3 w H => ?_)
  refine l_pint rfl rfl ?_
  refine l_nil ?_
  refine w_seq ?_
  refine w_seq ?_
  refine w_region ?_
  refine l_pptr rfl rfl ?_
  refine l_v rfl (q_eqlNilF rfl pt_24 rfl rfl) ?_
  refine l_nil ?_
  refine w_cond_f rfl ?_
  refine w_skip ?_
  refine w_seq ?_
  refine w_seq ?_
  refine w_region ?_
  refine l_pptr rfl rfl ?_
  refine l_v rfl (q_loadN (vs := [_, _, _]) rfl ag_31 rfl rfl (by first | exact H.cells 0 rfl | exact H.cells 1 rfl | exact H.cells 2 rfl | exact H.cells 3 rfl | exact H.cells 4 rfl | exact H.cells 5 rfl | exact H.cells 6 rfl | exact H.cells 7 rfl | exact H.cells 8 rfl | exact H.cells 9 rfl)) ?_
  refine b_call rfl cb_46 rfl (lay_ok (sink7 H) hfit fr to (hr.up 1 rfl) hl hroom true) (fun v w hv => ?_)
  obtain ⟨rfl, hv⟩ := hv
  refine l_pint rfl rfl ?_
  refine l_nil ?_
  refine w_seq ?_
  refine w_region ?_
  refine l_pint rfl rfl ?_
  refine l_pbool rfl rfl ?_
  refine l_nil ?_
  refine w_cond rfl (fun c1 => ?_) (fun c1 => ?_)
  · try simp only [decide_eq_true_eq, decide_eq_false_iff_not, Bool.not_eq_true', Bool.not_eq_false', beq_iff_eq, beq_eq_false_iff_ne, bne_iff_ne, bne_eq_false_iff_eq, ne_eq, Int.not_lt, Int.not_le] at c1
    have H := lift7 (hv.resolve_right (fun h => c1 h.1)).2
    refine w_seq ?_
    refine w_region ?_
    refine l_pint rfl rfl ?_
    refine l_pint rfl rfl ?_
    refine l_nil ?_
    refine w_ret ?_
    refine fin1 (v := .int _ _) rfl ?_
    exact ⟨rfl, .inl ⟨c1, H.erase 0⟩⟩
  try simp only [decide_eq_true_eq, decide_eq_false_iff_not, Bool.not_eq_true', Bool.not_eq_false', beq_iff_eq, beq_eq_false_iff_ne, bne_iff_ne, bne_eq_false_iff_eq, ne_eq, Int.not_lt, Int.not_le] at c1
  obtain ⟨he, a', pa, pcap, H⟩ := hv.resolve_left (fun h => h.1 c1)
  refine w_skip ?_
  refine w_seq ?_
  refine w_region ?_
  refine l_v rfl (q_fieldAddr rfl fo31_0 rfl) ?_
  refine l_v rfl (q_load1 rfl c1_3 rfl (by first | exact H.cell 0 rfl rfl | exact H.cell 1 rfl rfl | exact H.cell 2 rfl rfl | exact H.cell 3 rfl rfl | exact H.cell 4 rfl rfl | exact H.cell 5 rfl rfl | exact H.cell 6 rfl rfl | exact H.cell 7 rfl rfl | exact H.cell 8 rfl rfl | exact H.cell 9 rfl rfl)) ?_
  refine l_v rfl (q_fieldAddr rfl fo31_1 rfl) ?_
  refine l_v rfl (q_load1 rfl c1_3 rfl (by first | exact H.cell 0 rfl rfl | exact H.cell 1 rfl rfl | exact H.cell 2 rfl rfl | exact H.cell 3 rfl rfl | exact H.cell 4 rfl rfl | exact H.cell 5 rfl rfl | exact H.cell 6 rfl rfl | exact H.cell 7 rfl rfl | exact H.cell 8 rfl rfl | exact H.cell 9 rfl rfl)) ?_
  refine l_v rfl (q_fieldAddr rfl fo31_2 rfl) ?_
  refine l_v rfl (q_load1 rfl c1_29 rfl (by first | exact H.cell 0 rfl rfl | exact H.cell 1 rfl rfl | exact H.cell 2 rfl rfl | exact H.cell 3 rfl rfl | exact H.cell 4 rfl rfl | exact H.cell 5 rfl rfl | exact H.cell 6 rfl rfl | exact H.cell 7 rfl rfl | exact H.cell 8 rfl rfl | exact H.cell 9 rfl rfl)) ?_
  refine l_v rfl (q_bytesStr rfl by_29 st_9 rfl ((hr.up 8 rfl).use H 0 rfl) hl) ?_
  refine l_v rfl (q_build (cs := [.int _ _, .int _ _, .string _]) rfl sp_88 rfl) ?_
  refine b_alloc rfl ze_88 rfl H (fun b6 w H => ?_)
  first | refine b_store (cs' := [_, _, _]) rfl sz_88 rfl rfl rfl rfl rfl H 0 rfl rfl rfl (fun w H => ?_) | refine b_store (cs' := [_, _, _]) rfl sz_88 rfl rfl rfl rfl rfl H 1 rfl rfl rfl (fun w H => ?_) | refine b_store (cs' := [_, _, _]) rfl sz_88 rfl rfl rfl rfl rfl H 2 rfl rfl rfl (fun w H => ?_) | refine b_store (cs' := [_, _, _]) rfl sz_88 rfl rfl rfl rfl rfl H 3 rfl rfl rfl (fun w H => ?_) | refine b_store (cs' := [_, _, _]) rfl sz_88 rfl rfl rfl rfl rfl H 4 rfl rfl rfl (fun w H => ?_) | refine b_store (cs' := [_, _, _]) rfl sz_88 rfl rfl rfl rfl rfl H 5 rfl rfl rfl (fun w H => ?_) | refine b_store (cs' := [_, _, _]) rfl sz_88 rfl rfl rfl rfl rfl H 6 rfl rfl rfl (fun w H => ?_) | refine b_store (cs' := [_, _, _]) rfl sz_88 rfl rfl rfl rfl rfl H 7 rfl rfl rfl (fun w H => ?_) | refine b_store (cs' := [_, _, _]) rfl sz_88 rfl rfl rfl rfl rfl H 8 rfl rfl rfl (fun w H => ?_) | refine b_store (cs' := [_, _, _]) rfl sz_88 rfl rfl rfl rfl rfl H 9 rfl rfl rfl (fun w H => ?_)
  refine l_nil ?_
  refine w_seq ?_
  refine w_seq ?_
  refine w_drawT [] [3, 4, 5] [(0, 0), (1, 0), (2, 0), (3, 1), (4, 1), (5, 1), (6, 0), (7, 0), (8, 0), (9, 0), (10, 0)] mixed (by kernel_rfl) (fun _ _ _ h => fin_panic h) H (fun H => ?_)
  refine r_pptr rfl rfl rfl ?_
  refine r_pptr rfl rfl rfl ?_
  refine r_w rfl rfl (fun w => q_fieldAddr rfl fo84_4 rfl) ?_
  refine r_v rfl rfl (fun w hS => q_load1 rfl c1_82 rfl (by first | exact hS.cell 0 rfl rfl | exact hS.cell 1 rfl rfl | exact hS.cell 2 rfl rfl | exact hS.cell 3 rfl rfl | exact hS.cell 4 rfl rfl | exact hS.cell 5 rfl rfl | exact hS.cell 6 rfl rfl | exact hS.cell 7 rfl rfl | exact hS.cell 8 rfl rfl | exact hS.cell 9 rfl rfl)) ?_
  refine r_v rfl rfl (fun w hS => q_loadN (vs := [_, _, _]) rfl ag_88 rfl rfl (by first | exact hS.cells 0 rfl | exact hS.cells 1 rfl | exact hS.cells 2 rfl | exact hS.cells 3 rfl | exact hS.cells 4 rfl | exact hS.cells 5 rfl | exact hS.cells 6 rfl | exact hS.cells 7 rfl | exact hS.cells 8 rfl | exact hS.cells 9 rfl)) ?_
  refine r_v rfl rfl (fun w hS => q_lookup2 (k := (_, _, _)) rfl mp_82 ky_88 ze_3 rfl rfl (by first | exact hS.heapMI 0 rfl | exact hS.heapMI 1 rfl | exact hS.heapMI 2 rfl | exact hS.heapMI 3 rfl | exact hS.heapMI 4 rfl | exact hS.heapMI 5 rfl | exact hS.heapMI 6 rfl | exact hS.heapMI 7 rfl | exact hS.heapMI 8 rfl | exact hS.heapMI 9 rfl)) ?_
  refine r_ptup rfl rfl rfl ?_
  refine r_pint rfl rfl rfl ?_
  refine r_pbool rfl rfl rfl ?_
  refine r_pint rfl rfl rfl ?_
  refine r_pbool rfl rfl rfl ?_
  refine r_nil ?_
  refine w_seq ?_
  refine w_region ?_
  refine l_pbool rfl rfl ?_
  refine l_pbool rfl rfl ?_
  refine l_nil ?_
  refine w_cond rfl (fun c2 => ?_) (fun c2 => ?_)
  · try simp only [decide_eq_true_eq, decide_eq_false_iff_not, Bool.not_eq_true', Bool.not_eq_false', beq_iff_eq, beq_eq_false_iff_ne, bne_iff_ne, bne_eq_false_iff_eq, ne_eq, Int.not_lt, Int.not_le] at c2
    refine w_seq ?_
    refine w_drawT [10] [3, 4, 8] [(0, 0), (1, 0), (2, 0), (3, 1), (4, 1), (5, 0), (6, 0), (7, 0), (8, 1), (9, 0), (10, 2)] mixed (by kernel_rfl) (fun _ _ _ h => fin_panic h) H (fun H => ?_)
    refine r_pptr rfl rfl rfl ?_
    refine r_pptr rfl rfl rfl ?_
    refine r_w rfl rfl (fun w => q_fieldAddr rfl fo84_4 rfl) ?_
    refine r_v rfl rfl (fun w hS => q_load1 rfl c1_82 rfl (by first | exact hS.cell 0 rfl rfl | exact hS.cell 1 rfl rfl | exact hS.cell 2 rfl rfl | exact hS.cell 3 rfl rfl | exact hS.cell 4 rfl rfl | exact hS.cell 5 rfl rfl | exact hS.cell 6 rfl rfl | exact hS.cell 7 rfl rfl | exact hS.cell 8 rfl rfl | exact hS.cell 9 rfl rfl)) ?_
    refine r_v rfl rfl (fun w hS => q_loadN (vs := [_, _, _]) rfl ag_88 rfl rfl (by first | exact hS.cells 0 rfl | exact hS.cells 1 rfl | exact hS.cells 2 rfl | exact hS.cells 3 rfl | exact hS.cells 4 rfl | exact hS.cells 5 rfl | exact hS.cells 6 rfl | exact hS.cells 7 rfl | exact hS.cells 8 rfl | exact hS.cells 9 rfl)) ?_
    refine r_pptr rfl rfl rfl ?_
    refine r_pptr rfl rfl rfl ?_
    refine r_w rfl rfl (fun w => q_fieldAddr rfl fo84_3 rfl) ?_
    refine r_v rfl rfl (fun w hS => q_load1 rfl c1_22 rfl (by first | exact hS.cell 0 rfl rfl | exact hS.cell 1 rfl rfl | exact hS.cell 2 rfl rfl | exact hS.cell 3 rfl rfl | exact hS.cell 4 rfl rfl | exact hS.cell 5 rfl rfl | exact hS.cell 6 rfl rfl | exact hS.cell 7 rfl rfl | exact hS.cell 8 rfl rfl | exact hS.cell 9 rfl rfl)) ?_
    refine r_w rfl rfl (fun w => q_lenSlice rfl el_22 rfl) ?_
    refine r_do rfl ?_
    first | refine b_mapNew (k := (_, _, _)) rfl mp_82 ky_88 rfl rfl rfl (by simpa using c2) H 0 rfl (fun w H => ?_) | refine b_mapNew (k := (_, _, _)) rfl mp_82 ky_88 rfl rfl rfl (by simpa using c2) H 1 rfl (fun w H => ?_) | refine b_mapNew (k := (_, _, _)) rfl mp_82 ky_88 rfl rfl rfl (by simpa using c2) H 2 rfl (fun w H => ?_) | refine b_mapNew (k := (_, _, _)) rfl mp_82 ky_88 rfl rfl rfl (by simpa using c2) H 3 rfl (fun w H => ?_) | refine b_mapNew (k := (_, _, _)) rfl mp_82 ky_88 rfl rfl rfl (by simpa using c2) H 4 rfl (fun w H => ?_) | refine b_mapNew (k := (_, _, _)) rfl mp_82 ky_88 rfl rfl rfl (by simpa using c2) H 5 rfl (fun w H => ?_) | refine b_mapNew (k := (_, _, _)) rfl mp_82 ky_88 rfl rfl rfl (by simpa using c2) H 6 rfl (fun w H => ?_) | refine b_mapNew (k := (_, _, _)) rfl mp_82 ky_88 rfl rfl rfl (by simpa using c2) H 7 rfl (fun w H => ?_) | refine b_mapNew (k := (_, _, _)) rfl mp_82 ky_88 rfl rfl rfl (by simpa using c2) H 8 rfl (fun w H => ?_) | refine b_mapNew (k := (_, _, _)) rfl mp_82 ky_88 rfl rfl rfl (by simpa using c2) H 9 rfl (fun w H => ?_)
    refine l_nil ⟨(fun h => nomatch h), ?_⟩
    refine r_nil ?_
    refine w_drawS [8, 11] [4, 5] 99 [(0, 0), (1, 0), (2, 0), (3, 0), (4, 1), (5, 1), (6, 2), (7, 2), (8, 2), (9, 0), (10, 0), (11, 2)] mixed (by kernel_rfl) (fun _ _ _ h => fin_panic h) H (fun H => ?_)
    refine r_pptr rfl rfl rfl ?_
    refine r_pptr rfl rfl rfl ?_
    refine r_pptr rfl rfl rfl ?_
    refine r_w rfl rfl (fun w => q_fieldAddr rfl fo84_3 rfl) ?_
    refine r_v rfl rfl (fun w hS => q_load1 rfl c1_22 rfl (by first | exact hS.cell 0 rfl rfl | exact hS.cell 1 rfl rfl | exact hS.cell 2 rfl rfl | exact hS.cell 3 rfl rfl | exact hS.cell 4 rfl rfl | exact hS.cell 5 rfl rfl | exact hS.cell 6 rfl rfl | exact hS.cell 7 rfl rfl | exact hS.cell 8 rfl rfl | exact hS.cell 9 rfl rfl)) ?_
    refine r_v rfl rfl (fun w hS => q_loadN (vs := [_, _, _]) rfl ag_31 rfl rfl (by first | exact hS.cells 0 rfl | exact hS.cells 1 rfl | exact hS.cells 2 rfl | exact hS.cells 3 rfl | exact hS.cells 4 rfl | exact hS.cells 5 rfl | exact hS.cells 6 rfl | exact hS.cells 7 rfl | exact hS.cells 8 rfl | exact hS.cells 9 rfl)) ?_
    refine r_do rfl ?_
    refine b_call rfl cb_47 rfl (copied_ok H fr to (hr.up 9 rfl) hl (by have := layE_small he; omega)) (fun v w hv => ?_)
    obtain ⟨b47, rfl, H⟩ := hv
    refine l_nil ⟨fun _ _ => (by first | exact Sx.of H 0 99 rfl | exact Sx.of H 1 99 rfl | exact Sx.of H 2 99 rfl | exact Sx.of H 3 99 rfl | exact Sx.of H 4 99 rfl), ?_⟩
    refine r_do rfl ?_
    refine b_buildSlice (cs := [_, _, _]) rfl el_22 ze_31 rfl rfl rfl H (fun b53 w H => ?_)
    refine l_nil ⟨fun _ _ => (by first | exact Sx.of H 0 99 rfl | exact Sx.of H 1 99 rfl | exact Sx.of H 2 99 rfl | exact Sx.of H 3 99 rfl | exact Sx.of H 4 99 rfl), ?_⟩
    refine r_do rfl ?_
    first | refine b_append rfl el_22 ze_31 rfl rfl rfl H 1 rfl (Rd.mk (H.cells0 0 rfl)) rfl (by simp [Value.oneCell']) ⟨by (try dsimp only); omega, by simp only [maxLen]; (try dsimp only); omega⟩ (fun a54 c54 w H => ?_) | refine b_append rfl el_22 ze_31 rfl rfl rfl H 2 rfl (Rd.mk (H.cells0 0 rfl)) rfl (by simp [Value.oneCell']) ⟨by (try dsimp only); omega, by simp only [maxLen]; (try dsimp only); omega⟩ (fun a54 c54 w H => ?_) | refine b_append rfl el_22 ze_31 rfl rfl rfl H 3 rfl (Rd.mk (H.cells0 0 rfl)) rfl (by simp [Value.oneCell']) ⟨by (try dsimp only); omega, by simp only [maxLen]; (try dsimp only); omega⟩ (fun a54 c54 w H => ?_) | refine b_append rfl el_22 ze_31 rfl rfl rfl H 4 rfl (Rd.mk (H.cells0 0 rfl)) rfl (by simp [Value.oneCell']) ⟨by (try dsimp only); omega, by simp only [maxLen]; (try dsimp only); omega⟩ (fun a54 c54 w H => ?_) | refine b_append rfl el_22 ze_31 rfl rfl rfl H 5 rfl (Rd.mk (H.cells0 0 rfl)) rfl (by simp [Value.oneCell']) ⟨by (try dsimp only); omega, by simp only [maxLen]; (try dsimp only); omega⟩ (fun a54 c54 w H => ?_) | refine b_append rfl el_22 ze_31 rfl rfl rfl H 6 rfl (Rd.mk (H.cells0 0 rfl)) rfl (by simp [Value.oneCell']) ⟨by (try dsimp only); omega, by simp only [maxLen]; (try dsimp only); omega⟩ (fun a54 c54 w H => ?_) | refine b_append rfl el_22 ze_31 rfl rfl rfl H 7 rfl (Rd.mk (H.cells0 0 rfl)) rfl (by simp [Value.oneCell']) ⟨by (try dsimp only); omega, by simp only [maxLen]; (try dsimp only); omega⟩ (fun a54 c54 w H => ?_) | refine b_append rfl el_22 ze_31 rfl rfl rfl H 8 rfl (Rd.mk (H.cells0 0 rfl)) rfl (by simp [Value.oneCell']) ⟨by (try dsimp only); omega, by simp only [maxLen]; (try dsimp only); omega⟩ (fun a54 c54 w H => ?_) | refine b_append rfl el_22 ze_31 rfl rfl rfl H 9 rfl (Rd.mk (H.cells0 0 rfl)) rfl (by simp [Value.oneCell']) ⟨by (try dsimp only); omega, by simp only [maxLen]; (try dsimp only); omega⟩ (fun a54 c54 w H => ?_)
    refine l_nil ⟨(fun h => nomatch h), ?_⟩
    refine r_pptr rfl rfl rfl ?_
    refine r_w rfl rfl (fun w => q_fieldAddr rfl fo84_3 rfl) ?_
    refine r_do rfl ?_
    first | refine b_store rfl sz_22 rfl rfl rfl rfl rfl H 0 rfl rfl rfl (fun w H => ?_) | refine b_store rfl sz_22 rfl rfl rfl rfl rfl H 1 rfl rfl rfl (fun w H => ?_) | refine b_store rfl sz_22 rfl rfl rfl rfl rfl H 2 rfl rfl rfl (fun w H => ?_) | refine b_store rfl sz_22 rfl rfl rfl rfl rfl H 3 rfl rfl rfl (fun w H => ?_) | refine b_store rfl sz_22 rfl rfl rfl rfl rfl H 4 rfl rfl rfl (fun w H => ?_) | refine b_store rfl sz_22 rfl rfl rfl rfl rfl H 5 rfl rfl rfl (fun w H => ?_) | refine b_store rfl sz_22 rfl rfl rfl rfl rfl H 6 rfl rfl rfl (fun w H => ?_) | refine b_store rfl sz_22 rfl rfl rfl rfl rfl H 7 rfl rfl rfl (fun w H => ?_) | refine b_store rfl sz_22 rfl rfl rfl rfl rfl H 8 rfl rfl rfl (fun w H => ?_) | refine b_store rfl sz_22 rfl rfl rfl rfl rfl H 9 rfl rfl rfl (fun w H => ?_)
    refine l_nil ⟨(fun h => nomatch h), ?_⟩
    refine r_nil ?_
    refine w_seq ?_
    have H := H.front 9 rfl
    refine w_draw [13] [3, 5, 7, 9] (SE W _ st.cm st.came (0, to, bs)) [(0, 0), (1, 0), (2, 0), (3, 1), (4, 0), (5, 1), (6, 0), (7, 1), (8, 0), (9, 1), (10, 0), (11, 2), (12, 0), (13, 2)] mixed (by kernel_rfl) (fun _ _ _ h => fin_panic h) ⟨Sx.of H.drew 1 99 rfl, _, .inl rfl, Sx.of H.drew 0 1 rfl⟩ ?_
    replace H := H.drew
    refine r_pptr rfl rfl rfl ?_
    refine r_pptr rfl rfl rfl ?_
    refine r_w rfl rfl (fun w => q_fieldAddr rfl fo84_5 rfl) ?_
    refine r_v rfl rfl (fun w hS => q_load1 rfl c1_82 rfl (by first | exact hS.1.cell 0 rfl rfl | exact hS.1.cell 1 rfl rfl | exact hS.1.cell 2 rfl rfl | exact hS.1.cell 3 rfl rfl | exact hS.1.cell 4 rfl rfl | exact hS.1.cell 5 rfl rfl | exact hS.1.cell 6 rfl rfl | exact hS.1.cell 7 rfl rfl | exact hS.1.cell 8 rfl rfl | exact hS.1.cell 9 rfl rfl)) ?_
    refine r_w rfl rfl (fun w => q_fieldAddr rfl fo31_1 rfl) ?_
    refine r_v rfl rfl (fun w hS => q_load1 rfl c1_3 rfl (by first | exact hS.1.cell 0 rfl rfl | exact hS.1.cell 1 rfl rfl | exact hS.1.cell 2 rfl rfl | exact hS.1.cell 3 rfl rfl | exact hS.1.cell 4 rfl rfl | exact hS.1.cell 5 rfl rfl | exact hS.1.cell 6 rfl rfl | exact hS.1.cell 7 rfl rfl | exact hS.1.cell 8 rfl rfl | exact hS.1.cell 9 rfl rfl)) ?_
    refine r_w rfl rfl (fun w => q_fieldAddr rfl fo88_2 rfl) ?_
    refine r_v rfl rfl (fun w hS => q_load1 rfl c1_9 rfl (by first | exact hS.1.cell 0 rfl rfl | exact hS.1.cell 1 rfl rfl | exact hS.1.cell 2 rfl rfl | exact hS.1.cell 3 rfl rfl | exact hS.1.cell 4 rfl rfl | exact hS.1.cell 5 rfl rfl | exact hS.1.cell 6 rfl rfl | exact hS.1.cell 7 rfl rfl | exact hS.1.cell 8 rfl rfl | exact hS.1.cell 9 rfl rfl)) ?_
    refine r_w rfl rfl (fun w => q_build (cs := [.int _ _, .int _ _, .string _]) rfl sp_88 rfl) ?_
    refine r_v rfl rfl (fun w hS => q_lookupSE (k := (_, _, _)) rfl mp_82 ky_88 ze_3 rfl rfl hS) ?_
    first | refine r_w rfl rfl (fun w => q_add rfl rfl rfl (by simp only [inK]; omega)) ?_ | refine r_pint rfl rfl rfl ?_
    refine r_do rfl ?_
    refine b_mapEntry (k := (_, _, _)) rfl mp_82 ky_88 ze_3 rfl rfl H 0 rfl (fun w H => ?_)
    refine l_nil ⟨fun _ _ => ⟨Sx.of H 1 99 rfl, _, .inr rfl, Sx.of H 0 1 rfl⟩, ?_⟩
    refine r_pint rfl rfl rfl ?_
    refine r_do rfl ?_
    refine b_entryStore rfl rfl rfl rfl hu H 0 rfl (fun w H => ?_)
    refine l_nil ⟨(fun h => nomatch h), ?_⟩
    refine r_nil ?_
    refine w_seq ?_
    refine w_region ?_
    refine l_pint rfl rfl ?_
    refine l_nil ?_
    refine w_ret ?_
    refine fin1 (v := .int _ _) rfl ?_
    exact ⟨by rw [he], .inr ⟨he, _, _, _, _, _, _, send_new (by simpa using c2) H⟩⟩
  try simp only [decide_eq_true_eq, decide_eq_false_iff_not, Bool.not_eq_true', Bool.not_eq_false', beq_iff_eq, beq_eq_false_iff_ne, bne_iff_ne, bne_eq_false_iff_eq, ne_eq, Int.not_lt, Int.not_le] at c2
  refine w_skip ?_
  refine w_seq ?_
  have H := H.front 7 rfl
  refine w_draw [13] [3, 5, 7, 9] (SE W _ st.cm st.came (0, to, bs)) [(0, 0), (1, 0), (2, 0), (3, 1), (4, 0), (5, 1), (6, 0), (7, 1), (8, 0), (9, 1), (10, 0), (11, 2), (12, 0), (13, 2)] mixed (by kernel_rfl) (fun _ _ _ h => fin_panic h) ⟨Sx.of H.drew 1 99 rfl, _, .inl rfl, Sx.of H.drew 0 1 rfl⟩ ?_
  replace H := H.drew
  refine r_pptr rfl rfl rfl ?_
  refine r_pptr rfl rfl rfl ?_
  refine r_w rfl rfl (fun w => q_fieldAddr rfl fo84_5 rfl) ?_
  refine r_v rfl rfl (fun w hS => q_load1 rfl c1_82 rfl (by first | exact hS.1.cell 0 rfl rfl | exact hS.1.cell 1 rfl rfl | exact hS.1.cell 2 rfl rfl | exact hS.1.cell 3 rfl rfl | exact hS.1.cell 4 rfl rfl | exact hS.1.cell 5 rfl rfl | exact hS.1.cell 6 rfl rfl | exact hS.1.cell 7 rfl rfl | exact hS.1.cell 8 rfl rfl | exact hS.1.cell 9 rfl rfl)) ?_
  refine r_w rfl rfl (fun w => q_fieldAddr rfl fo31_1 rfl) ?_
  refine r_v rfl rfl (fun w hS => q_load1 rfl c1_3 rfl (by first | exact hS.1.cell 0 rfl rfl | exact hS.1.cell 1 rfl rfl | exact hS.1.cell 2 rfl rfl | exact hS.1.cell 3 rfl rfl | exact hS.1.cell 4 rfl rfl | exact hS.1.cell 5 rfl rfl | exact hS.1.cell 6 rfl rfl | exact hS.1.cell 7 rfl rfl | exact hS.1.cell 8 rfl rfl | exact hS.1.cell 9 rfl rfl)) ?_
  refine r_w rfl rfl (fun w => q_fieldAddr rfl fo88_2 rfl) ?_
  refine r_v rfl rfl (fun w hS => q_load1 rfl c1_9 rfl (by first | exact hS.1.cell 0 rfl rfl | exact hS.1.cell 1 rfl rfl | exact hS.1.cell 2 rfl rfl | exact hS.1.cell 3 rfl rfl | exact hS.1.cell 4 rfl rfl | exact hS.1.cell 5 rfl rfl | exact hS.1.cell 6 rfl rfl | exact hS.1.cell 7 rfl rfl | exact hS.1.cell 8 rfl rfl | exact hS.1.cell 9 rfl rfl)) ?_
  refine r_w rfl rfl (fun w => q_build (cs := [.int _ _, .int _ _, .string _]) rfl sp_88 rfl) ?_
  refine r_v rfl rfl (fun w hS => q_lookupSE (k := (_, _, _)) rfl mp_82 ky_88 ze_3 rfl rfl hS) ?_
  first | refine r_w rfl rfl (fun w => q_add rfl rfl rfl (by simp only [inK]; omega)) ?_ | refine r_pint rfl rfl rfl ?_
  refine r_do rfl ?_
  refine b_mapEntry (k := (_, _, _)) rfl mp_82 ky_88 ze_3 rfl rfl H 0 rfl (fun w H => ?_)
  refine l_nil ⟨fun _ _ => ⟨Sx.of H 1 99 rfl, _, .inr rfl, Sx.of H 0 1 rfl⟩, ?_⟩
  refine r_pint rfl rfl rfl ?_
  refine r_do rfl ?_
  refine b_entryStore rfl rfl rfl rfl hu H 0 rfl (fun w H => ?_)
  refine l_nil ⟨(fun h => nomatch h), ?_⟩
  refine r_nil ?_
  refine w_seq ?_
  refine w_region ?_
  refine l_pint rfl rfl ?_
  refine l_nil ?_
  refine w_ret ?_
  refine fin1 (v := .int _ _) rfl ?_
  exact ⟨by rw [he], .inr ⟨he, _, _, _, _, _, _, send_old (by simpa using c2) H⟩⟩
end Go.Proofs.Ytmgcmgfjaimlnaa
