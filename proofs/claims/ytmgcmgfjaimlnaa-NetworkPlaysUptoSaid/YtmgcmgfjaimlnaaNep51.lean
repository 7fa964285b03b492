/- The book's lists of bytes and of numbers are found apart, of any such lists in memory, for the network's seat. -/
import Derived.Test.YtmgcmgfjaimlnaaNep50
namespace Go.Proofs.Ytmgcmgfjaimlnaa
open Go.EW
attribute [local irreducible] EW.W EW.L EW.fin
set_option linter.unusedVariables false
set_option linter.unusedSimpArgs false
theorem vgetL {rs : List LR} {i : Nat} (hi : i < rs.length) : (rs.map LR.v)[i]? = some (rs[i].v) := by rw [List.getElem?_map, List.getElem?_eq_getElem hi]; rfl
def LsOk (rs : List LR) : Prop := rs.length ≤ 2000000000000 ∧ ∀ r ∈ rs, r.p.length ≤ 1000000000
theorem LsOk.get {rs : List LR} (h : LsOk rs) {i : Nat} (hi : i < rs.length) : rs[i].p.length ≤ 1000000000 := h.2 _ (List.getElem_mem hi)
theorem gokL_v {f : Nat → Nat → Value} {gs : List LR} {a : Option Addr} {c i n : Nat} : (gs ++ [(⟨a, c, mks f i n⟩ : LR)]).map LR.v = gs.map LR.v ++ [.slice a n c] := by
  rw [List.map_append]
  simp [LR.v, mks_len]
theorem row_cellL {W w : World} {S : List Seg} {T sz m cap k b : Nat} {a : Option Addr} {xs : List Value} {v : Value} {i : Nat} (H : St W w S) (hi : S[i]? = some (row T sz a m cap xs)) (ha : a = some ⟨b, 0, none⟩) (hk : xs[k]? = some v) : w.cell? ⟨b, 0 + k * 1, none⟩ = some v := by
  obtain ⟨b', h, hc⟩ := row_addr H hi hk
  rw [ha] at h
  cases h
  exact hc
theorem mks_cell {w : World} {f : Nat → Nat → Value} {ga : Option Addr} {i n k b o : Nat} (hrd : Rd w ga (mks f i n)) (ha : ga = some ⟨b, o, none⟩) (hk : k < n) : w.cell? ⟨b, o + k * 1, none⟩ = some (f i k) := by
  obtain ⟨b', o', h1, h2⟩ := hrd k (f i k) (mks_at hk)
  rw [ha] at h1; cases h1
  rw [Nat.mul_one]; exact h2
theorem segL_rd {W w : World} {S : List Seg} {T : TypeId} {f : Nat → Nat → Value} {rs gs : List LR} {i j : Nat} (H : St W w S) (hj : S[j]? = some (Segs (gcn T f rs rs.length gs))) (hi : i < rs.length) (hg : i < gs.length) : Rd w gs[i].a (mks f i (rs[i].p.length + 70)) ∧ Rd w rs[i].a (mks f i rs[i].p.length) :=
  gr_rd (j := 0) (Segs.take i (gcn_got hi hi hg) (H.front j hj)) rfl
theorem grdL_at {w : World} {f : Nat → Nat → Value} {a : Option Addr} {i n k : Nat} (h : Rd w a (mks f i n)) (hk : k < n) : ∃ b o, a = some ⟨b, o, none⟩ := by
  obtain ⟨b, o, e, _⟩ := h k _ (mks_at hk)
  exact ⟨b, o, e⟩
theorem oneBy (i k : Nat) : (mkBy i k).oneCell' = true := by unfold mkBy; rfl
theorem oneIn (i k : Nat) : (mkIn i k).oneCell' = true := by unfold mkIn; rfl
set_option maxRecDepth 8000 in
set_option maxHeartbeats 10000000000000 in
theorem apartBytes_ok {W w : World} {F : List Seg} {rs : List LR} {ka : Option Addr} {kc bk : Nat} {bc : List Value} (H : St W w (row 29 1 ka rs.length kc (rs.map LR.v) :: Segs (rs.map (LR.seg 5)) :: blk bk bc 75 :: F)) (hok : LsOk rs) (hb : bc[0]? = some (.slice ka rs.length kc)) :
    Ok Try.prog 70 [.pointer (some ⟨bk, 0, none⟩)].toArray w (fun v w' => v = .bool true ∧ St W w' (blk bk bc 75 :: F)) := by
  have h12 := hok.1
  refine enter (n := 113) (rs := #[.tmp 2]) Try.func70 rfl rfl rfl rfl ?_
  refine w_seq ?_
  refine w_region ?_
  refine l_pbool rfl rfl ?_
  refine l_nil ?_
  refine w_seq ?_
  refine w_region ?_
  refine l_pptr rfl rfl ?_
  refine l_pptr rfl rfl ?_
  refine l_v rfl (q_fieldAddr rfl fo75_0 rfl) ?_
  refine l_v rfl (q_load1 rfl c1_64 rfl (H.cell 2 rfl hb)) ?_
  refine l_pslice rfl rfl ?_
  refine l_nil ?_
  refine w_seq ?_
  refine w_seq ?_
  refine w_region ?_
  refine l_pint rfl rfl ?_
  refine l_nil ?_
  refine w_block ?_
  refine w_loopG (G := Nat) [4, 5, 16, 17, 18, 19, 20, 21, 22, 23, 24, 25, 26, 27, 28, 29, 30, 31, 32, 33, 34, 35, 36, 37, 38, 39] (fun i => [(4, I ((i : Nat) : Int))]) (fun m i w => m + i = rs.length ∧ St W w (row 29 1 ka rs.length kc (rs.map LR.v) :: Segs (cntS 5 mkBy rs (i) (0)) :: blk bk bc 75 :: F)) (fun _ => rfl) ?_ ?_
  · refine ⟨rs.length, 0, ⟨rfl, trivial⟩, rfl, ?_⟩
    rw [cnt_zero]; exact H
  rintro m i ρ1 w ⟨hmi, H⟩
  refine w_seq ?_
  refine w_seq ?_
  refine w_region ?_
  refine l_pint rfl rfl ?_
  refine l_pslice rfl rfl ?_
  refine l_v rfl (q_lenSlice rfl el_64 rfl) ?_
  refine l_pbool rfl rfl ?_
  refine l_nil ?_
  refine w_cond rfl (fun c1 => ?_) (fun c1 => ?_)
  · try simp only [sH] at c1
    have hi : i < rs.length := by omega
    have hp := hok.get hi
    refine w_skip ?_
    refine w_seq ?_
    refine w_block ?_
    refine w_seq ?_
    refine w_region ?_
    refine l_pint rfl rfl ?_
    refine l_nil ?_
    refine w_block ?_
    refine w_loopG (G := Nat) [5, 22, 23, 24, 25, 26, 27, 28, 29, 30, 31, 32, 33, 34, 35, 36, 37, 38, 39] (fun k => [(5, I ((k : Nat) : Int))]) (fun m k w => m + k = rs[i].p.length ∧ St W w (row 29 1 ka rs.length kc (rs.map LR.v) :: Segs (cntS 5 mkBy rs (i) (k)) :: blk bk bc 75 :: F)) (fun _ => rfl) ?_ ?_
    · exact ⟨rs[i].p.length, 0, ⟨rfl, trivial⟩, rfl, H⟩
    rintro m k ρ1 w ⟨hmk, H⟩
    obtain ⟨kb, hka, hcell⟩ := row_addr (i := 0) H rfl (vgetL hi)
    refine w_seq ?_
    refine w_seq ?_
    refine w_region ?_
    refine l_pint rfl rfl ?_
    refine l_pslice rfl rfl ?_
    refine l_pint rfl rfl ?_
    refine l_v rfl (q_indexSliceE i rfl el_64 rfl hka rfl rfl hi) ?_
    refine l_v rfl (q_load1 rfl c1_29 rfl hcell) ?_
    refine l_v rfl (q_lenSlice rfl el_29 rfl) ?_
    refine l_pbool rfl rfl ?_
    refine l_nil ?_
    refine w_cond rfl (fun c2 => ?_) (fun c2 => ?_)
    · try simp only [sH] at c2
      have hk : k < rs[i].p.length := by omega
      have H2 := Segs.take i (cnt_get hi) (H.front 1 rfl)
      have hpl : (rs[i].prt mkBy i k).length = rs[i].p.length := prt_len (by omega)
      obtain ⟨rb, hra, _⟩ := rowF_addr (i := 0) (k := k) H2 rfl (List.getElem?_eq_getElem (by omega))
      have H := H2
      refine w_skip ?_
      refine w_seq ?_
      refine w_block ?_
      refine w_drawT [9] [3] [(0, 0), (1, 0), (2, 0), (3, 1), (4, 0), (5, 0), (6, 0), (7, 2), (8, 0), (9, 2)] mixed (by kernel_rfl) (fun _ _ _ h => fin_panic h) H (fun H => ?_)
      refine r_pslice rfl rfl rfl ?_
      refine r_pint rfl rfl rfl ?_
      refine r_w rfl rfl (fun w => q_indexSliceE i rfl el_64 rfl hka rfl rfl hi) ?_
      refine r_v rfl rfl (fun w hS => q_load1 rfl c1_29 rfl (row_cellL (i := 2) hS rfl hka (vgetL hi))) ?_
      refine r_pint rfl rfl rfl ?_
      refine r_pint rfl rfl rfl ?_
      refine r_pint rfl rfl rfl ?_
      refine r_do rfl ?_
      refine b_call rfl cb_89 rfl (markByte_ok H i k (by have := hok.1; omega) (by omega)) (fun v w hv => ?_)
      obtain ⟨rfl, H⟩ := hv
      refine l_nil ⟨fun _ _ => (by first | exact H | exact H.drop1 | exact H.drop1.drop1 | exact H.drop1.drop1.drop1), ?_⟩
      refine r_w rfl rfl (fun w => q_indexSliceE k rfl el_29 rfl hra rfl rfl hk) ?_
      refine r_do rfl ?_
      refine b_storeRowF (vs := [mkBy i k]) (xs' := rs[i].prt mkBy i (k + 1)) rfl sz_5 rfl rfl (by unfold mkBy; rfl) rfl (by simp [oneBy]) H 0 rfl hra (by rw [hpl]; simp; omega) (prt_set hk) (fun w H => ?_)
      refine l_nil ⟨(fun h => nomatch h), ?_⟩
      refine r_nil ?_
      refine w_region ?_
      refine l_pint rfl rfl ?_
      first | refine l_v rfl (q_add rfl rfl rfl (by simp only [inK]; omega)) ?_ | refine l_pint rfl rfl ?_
      refine l_pint rfl rfl ?_
      refine l_nil ?_
      refine ⟨by repeat' first | exact aM | exact aR | refine aI rfl ?_ | refine aU rfl ?_ | refine aL rfl ?_, ?_⟩
      refine ⟨m - 1, k + 1, by omega, ⟨by exact congrArg (Value.int IntKind.i64) (Int.natCast_succ k).symm, trivial⟩, by omega, ?_⟩
      have H3 : St W w (rs[i].sg 5 mkBy i (k + 1) :: Segs ((cntS 5 mkBy rs i k).eraseIdx i) :: row 29 1 ka rs.length kc (rs.map LR.v) :: blk bk bc 75 :: F) := H
      have H4 := Segs.put i (by rw [cnt_len]; exact hi) H3
      rw [cnt_set hi] at H4
      exact H4.front 1 rfl
    try simp only [sH] at c2
    refine w_exit ?_
    refine w_region ?_
    refine l_pint rfl rfl ?_
    first | refine l_v rfl (q_add rfl rfl rfl (by simp only [inK]; omega)) ?_ | refine l_pint rfl rfl ?_
    refine l_pint rfl rfl ?_
    refine l_nil ?_
    refine ⟨by repeat' first | exact aM | exact aR | refine aI rfl ?_ | refine aU rfl ?_ | refine aL rfl ?_, ?_⟩
    refine ⟨rs.length - (i + 1), i + 1, by omega, ⟨by exact congrArg (Value.int IntKind.i64) (Int.natCast_succ i).symm, trivial⟩, by omega, ?_⟩
    obtain rfl : k = rs[i].p.length := by omega
    rw [← cnt_next hi]; exact H
  try simp only [sH] at c1
  refine w_exit ?_
  refine w_seq ?_
  refine w_region ?_
  refine l_pslice rfl rfl ?_
  refine l_nil ?_
  refine w_seq ?_
  refine w_seq ?_
  refine w_region ?_
  refine l_pint rfl rfl ?_
  refine l_nil ?_
  refine w_block ?_
  refine w_loopG (G := Option Addr × Nat × List LR) [6, 7, 8, 9, 40, 41, 42, 43, 44, 45, 46, 47, 48, 49, 50, 51, 52, 53, 54, 55, 56, 57, 58, 59, 60, 61, 62, 63, 64] (fun ⟨ga, gc, gs⟩ => [(6, .slice ga gs.length gc), (7, I ((gs.length : Nat) : Int))]) (fun m ⟨ga, gc, gs⟩ w => m + gs.length = rs.length ∧ GOk mkBy rs gs ∧ St W w (row 29 1 ga gs.length gc (gs.map LR.v) :: row 29 1 ka rs.length kc (rs.map LR.v) :: Segs (gcn 5 mkBy rs gs.length gs) :: blk bk bc 75 :: F)) (fun _ => rfl) ?_ ?_
  · obtain rfl : i = rs.length := by omega
    refine ⟨rs.length, (none, 0, []), ⟨rfl, rfl, trivial⟩, rfl, (fun j hj => absurd hj (by simp)), ?_⟩
    have H2 := H.front 1 rfl
    have H3 : St W w (row 29 1 ka rs.length kc (rs.map LR.v) :: Segs (cntS 5 mkBy rs rs.length 0) :: blk bk bc 75 :: F) := H
    rw [← gcn_zero (gs := [])] at H3
    exact St.newRow H3
  rintro m ⟨ga, gc, gs⟩ ρ1 w ⟨hmi, hgo, H⟩
  refine w_seq ?_
  refine w_seq ?_
  refine w_region ?_
  refine l_pint rfl rfl ?_
  refine l_pslice rfl rfl ?_
  refine l_v rfl (q_lenSlice rfl el_64 rfl) ?_
  refine l_pbool rfl rfl ?_
  refine l_nil ?_
  refine w_cond rfl (fun c3 => ?_) (fun c3 => ?_)
  · try simp only [sH] at c3
    have hi : gs.length < rs.length := by omega
    have hp := hok.get hi
    obtain ⟨kb, hka, hcell⟩ := row_addr (i := 1) H rfl (vgetL hi)
    refine w_skip ?_
    refine w_seq ?_
    refine w_block ?_
    refine w_seq ?_
    refine w_region ?_
    refine l_pslice rfl rfl ?_
    refine l_pint rfl rfl ?_
    refine l_v rfl (q_indexSliceE gs.length rfl el_64 rfl hka rfl rfl hi) ?_
    refine l_v rfl (q_load1 rfl c1_29 rfl hcell) ?_
    refine l_pslice rfl rfl ?_
    refine l_nil ?_
    refine w_seq ?_
    refine w_seq ?_
    refine w_region ?_
    refine l_pint rfl rfl ?_
    refine l_nil ?_
    refine w_block ?_
    refine w_loopG (G := Nat × Nat × Option Addr × Nat) [8, 9, 50, 51, 52, 53, 54, 55, 56, 57, 58, 59, 60] (fun ⟨k, n, xa, xc⟩ => [(8, .slice xa n xc), (9, I ((k : Nat) : Int))]) (fun m ⟨k, n, xa, xc⟩ w => m + k = 70 ∧ n = rs[gs.length].p.length + k ∧ St W w (grS 5 mkBy gs.length rs[gs.length] k xa xc :: Segs ((gcn 5 mkBy rs gs.length gs).eraseIdx gs.length) :: row 29 1 ga gs.length gc (gs.map LR.v) :: row 29 1 ka rs.length kc (rs.map LR.v) :: blk bk bc 75 :: F)) (fun _ => rfl) ?_ ?_
    · exact ⟨70, (0, rs[gs.length].p.length, rs[gs.length].a, rs[gs.length].c), ⟨rfl, rfl, trivial⟩, rfl, rfl, gr_start (Segs.take gs.length (gcn_get hi) (H.front 2 rfl))⟩
    rintro m ⟨k, n, xa, xc⟩ ρ1 w ⟨hmk, hn, H⟩
    refine w_seq ?_
    refine w_seq ?_
    refine w_region ?_
    refine l_pint rfl rfl ?_
    refine l_pbool rfl rfl ?_
    refine l_nil ?_
    refine w_cond rfl (fun c4 => ?_) (fun c4 => ?_)
    · try simp only [sH] at c4
      refine w_skip ?_
      refine w_seq ?_
      refine w_block ?_
      refine w_region ?_
      refine l_pslice rfl rfl ?_
      refine l_pint rfl rfl ?_
      refine l_pslice rfl rfl ?_
      refine l_v rfl (q_lenSlice rfl el_29 rfl) ?_
      refine b_call rfl cb_89 rfl (markByte_ok H gs.length n (by have := hok.1; omega) (by omega)) (fun v w hv => ?_)
      obtain ⟨rfl, H⟩ := hv
      refine b_buildSlice (cs := [mkBy gs.length n]) rfl el_29 ze_5 rfl rfl rfl H (fun b59 w H => ?_)
      refine b_appendG (f := mkBy) rfl el_29 ze_5 rfl rfl hn rfl H (oneBy _ _) ⟨by omega, by simp only [maxLen]; omega⟩ (fun a60 c60 w H => ?_)
      refine l_pslice rfl rfl ?_
      refine l_nil ?_
      refine w_region ?_
      refine l_pint rfl rfl ?_
      first | refine l_v rfl (q_add rfl rfl rfl (by simp only [inK]; omega)) ?_ | refine l_pint rfl rfl ?_
      refine l_pint rfl rfl ?_
      refine l_nil ?_
      refine ⟨by repeat' first | exact aM | exact aR | refine aI rfl ?_ | refine aU rfl ?_ | refine aL rfl ?_, ?_⟩
      exact ⟨m - 1, (k + 1, n + 1, a60, c60), by omega, ⟨rfl, by exact congrArg (Value.int IntKind.i64) (Int.natCast_succ k).symm, trivial⟩, by omega, by omega, H⟩
    try simp only [sH] at c4
    obtain rfl : k = 70 := by omega
    subst hn
    refine w_exit ?_
    refine w_region ?_
    refine l_pslice rfl rfl ?_
    refine l_pslice rfl rfl ?_
    refine b_buildSlice (cs := [.slice xa (rs[gs.length].p.length + 70) xc]) rfl el_64 ze_29 rfl rfl rfl H (fun b63 w H => ?_)
    refine b_append rfl el_64 ze_29 rfl rfl rfl H 3 rfl (Rd.mk (H.cells0 0 rfl)) rfl (fun u hu => by obtain rfl := List.mem_singleton.1 hu; rfl) ⟨by omega, by simp only [maxLen]; omega⟩ (fun a64 c64 w H => ?_)
    refine l_pslice rfl rfl ?_
    refine l_nil ?_
    refine w_region ?_
    refine l_pint rfl rfl ?_
    first | refine l_v rfl (q_add rfl rfl rfl (by simp only [inK]; omega)) ?_ | refine l_pint rfl rfl ?_
    refine l_pint rfl rfl ?_
    refine l_nil ?_
    refine ⟨by repeat' first | exact aM | exact aR | refine aI rfl ?_ | refine aU rfl ?_ | refine aL rfl ?_, ?_⟩
    refine ⟨rs.length - (gs.length + 1), (a64, c64, gs ++ [⟨xa, xc, mks mkBy gs.length (rs[gs.length].p.length + 70)⟩]), by omega, ⟨congrArg (fun z => Value.slice a64 z c64) (by simp), congrArg (fun z : Nat => Value.int .i64 ((z : Nat) : Int)) (by simp), trivial⟩, by simp; omega, gok_snoc hgo hi rfl, ?_⟩
    have H3 : St W w (grS 5 mkBy gs.length rs[gs.length] 70 xa xc :: Segs ((gcn 5 mkBy rs gs.length gs).eraseIdx gs.length) :: row 29 1 a64 (gs.length + 1) c64 (gs.map LR.v ++ [.slice xa (rs[gs.length].p.length + 70) xc]) :: row 29 1 ka rs.length kc (rs.map LR.v) :: blk bk bc 75 :: F) := H.drop1
    have H4 := Segs.put gs.length (by rw [gcn_len]; exact hi) H3
    rw [gcn_set (g := ⟨xa, xc, mks mkBy gs.length (rs[gs.length].p.length + 70)⟩) hi rfl, ← gokL_v (f := mkBy) (i := gs.length)] at H4
    rw [show (gs ++ [(⟨xa, xc, mks mkBy gs.length (rs[gs.length].p.length + 70)⟩ : LR)]).length = gs.length + 1 by simp]
    exact ((H4.front 1 rfl).front 2 rfl).swap01
  try simp only [sH] at c3
  have hgl : gs.length = rs.length := by omega
  have ge : gcn 5 mkBy rs gs.length gs = gcn 5 mkBy rs rs.length gs := by rw [hgl]
  rw [ge] at H
  refine w_exit ?_
  refine w_seq ?_
  refine w_seq ?_
  refine w_region ?_
  refine l_pint rfl rfl ?_
  refine l_nil ?_
  refine w_block ?_
  refine w_loopG (G := Nat) [2, 10, 11, 65, 66, 67, 68, 69, 70, 71, 72, 73, 74, 75, 76, 77, 78, 79, 80, 81, 82, 83, 84, 85, 86, 87, 88, 89, 90, 91, 92, 93, 94, 95, 96, 97, 98, 99, 100, 101, 102, 103, 104, 105, 106, 107, 108, 109, 110, 111, 112] (fun i => [(10, I ((i : Nat) : Int))]) (fun m i w => m + i = rs.length ∧ St W w (row 29 1 ga gs.length gc (gs.map LR.v) :: row 29 1 ka rs.length kc (rs.map LR.v) :: Segs (gcn 5 mkBy rs rs.length gs) :: blk bk bc 75 :: F)) (fun _ => rfl) ?_ ?_
  · exact ⟨rs.length, 0, ⟨rfl, trivial⟩, rfl, H⟩
  rintro m i ρ1 w ⟨hmi, H⟩
  refine w_seq ?_
  refine w_seq ?_
  refine w_region ?_
  refine l_pint rfl rfl ?_
  refine l_pslice rfl rfl ?_
  refine l_v rfl (q_lenSlice rfl el_64 rfl) ?_
  refine l_pbool rfl rfl ?_
  refine l_nil ?_
  refine w_cond rfl (fun c5 => ?_) (fun c5 => ?_)
  · try simp only [sH] at c5
    have hi : i < rs.length := by omega
    have hp := hok.get hi
    have hig : i < gs.length := by omega
    have hgp := hgo i hig hi
    refine w_skip ?_
    refine w_seq ?_
    refine w_block ?_
    refine w_seq ?_
    refine w_region ?_
    refine l_pint rfl rfl ?_
    refine l_nil ?_
    refine w_block ?_
    refine w_loopG (G := Nat) [2, 11, 71, 72, 73, 74, 75, 76, 77, 78, 79, 80, 81, 82, 83, 84, 85, 86, 87, 88, 89, 90, 91, 92, 93, 94, 95, 96, 97, 98, 99, 100, 101, 102, 103, 104, 105, 106, 107, 108, 109, 110, 111, 112] (fun k => [(11, I ((k : Nat) : Int))]) (fun m k w => m + k = gs[i].p.length ∧ St W w (row 29 1 ga gs.length gc (gs.map LR.v) :: row 29 1 ka rs.length kc (rs.map LR.v) :: Segs (gcn 5 mkBy rs rs.length gs) :: blk bk bc 75 :: F)) (fun _ => rfl) ?_ ?_
    · exact ⟨gs[i].p.length, 0, ⟨rfl, trivial⟩, rfl, H⟩
    rintro m k ρ1 w ⟨hmk, H⟩
    obtain ⟨gb, hga, hgcell⟩ := row_addr (i := 0) H rfl (vgetL hig)
    obtain ⟨kb, hka, hcell⟩ := row_addr (i := 1) H rfl (vgetL hi)
    refine w_seq ?_
    refine w_seq ?_
    refine w_region ?_
    refine l_pint rfl rfl ?_
    refine l_pslice rfl rfl ?_
    refine l_pint rfl rfl ?_
    refine l_v rfl (q_indexSliceE i rfl el_64 rfl hga rfl rfl hig) ?_
    refine l_v rfl (q_load1 rfl c1_29 rfl hgcell) ?_
    refine l_v rfl (q_lenSlice rfl el_29 rfl) ?_
    refine l_pbool rfl rfl ?_
    refine l_nil ?_
    refine w_cond rfl (fun c6 => ?_) (fun c6 => ?_)
    · try simp only [sH] at c6
      have hkg : k < gs[i].p.length := by omega
      have hk : k < rs[i].p.length + 70 := by have e := congrArg List.length hgp; rw [mks_len] at e; omega
      obtain ⟨xb, xo, hxa⟩ := grdL_at (segL_rd H (j := 2) rfl hi hig).1 hk
      have hrr := (segL_rd H (j := 2) rfl hi hig).2
      refine w_skip ?_
      refine w_seq ?_
      refine w_block ?_
      refine w_seq ?_
      refine w_drawT [] [3, 6, 16, 23, 26] [(0, 0), (1, 0), (2, 0), (3, 1), (4, 0), (5, 0), (6, 1), (7, 0), (8, 0), (9, 2), (10, 0), (11, 0), (12, 0), (13, 0), (14, 0), (15, 0), (16, 1), (17, 0), (18, 0), (19, 0), (20, 0), (21, 0), (22, 0), (23, 1), (24, 0), (25, 0), (26, 1), (27, 0), (28, 0), (29, 2), (30, 0), (31, 0), (32, 0)] mixed (by kernel_rfl) (fun _ _ _ h => fin_panic h) H (fun H => ?_)
      refine r_pslice rfl rfl rfl ?_
      refine r_pint rfl rfl rfl ?_
      refine r_w rfl rfl (fun w => q_indexSliceE i rfl el_64 rfl hga rfl rfl hig) ?_
      refine r_v rfl rfl (fun w hS => q_load1 rfl c1_29 rfl (row_cellL (i := 0) hS rfl hga (vgetL hig))) ?_
      refine r_pint rfl rfl rfl ?_
      refine r_w rfl rfl (fun w => q_indexSliceE k rfl el_29 rfl hxa rfl rfl hkg) ?_
      refine r_v rfl rfl (fun w hS => q_load1 rfl c1_5 rfl (mks_cell (segL_rd hS (j := 2) rfl hi hig).1 hxa hk)) ?_
      refine r_pint rfl rfl rfl ?_
      refine r_pint rfl rfl rfl ?_
      refine r_do rfl ?_
      refine b_call rfl cb_89 rfl (markByte_ok H i k (by have := hok.1; omega) (by omega)) (fun v w hv => ?_)
      obtain ⟨rfl, H⟩ := hv
      refine l_nil ⟨fun _ _ => (by first | exact H | exact H.drop1 | exact H.drop1.drop1 | exact H.drop1.drop1.drop1), ?_⟩
      refine r_pbool rfl rfl rfl ?_
      refine r_pbool rfl rfl rfl ?_
      refine r_split 91 rfl (fun h91 => absurd h91 (by simp)) (fun h91 => ?_)
      try simp only [sH] at h91
      refine r_pint rfl rfl rfl ?_
      refine r_pslice rfl rfl rfl ?_
      refine r_pint rfl rfl rfl ?_
      refine r_w rfl rfl (fun w => q_indexSliceE i rfl el_64 rfl hka rfl rfl hi) ?_
      refine r_v rfl rfl (fun w hS => q_load1 rfl c1_29 rfl (row_cellL (i := 1) hS rfl hka (vgetL hi))) ?_
      refine r_w rfl rfl (fun w => q_lenSlice rfl el_29 rfl) ?_
      refine r_pbool rfl rfl rfl ?_
      refine r_pbool rfl rfl rfl ?_
      refine r_split 99 rfl (fun h99 => ?_) (fun h99 => ?_)
      · try simp only [sH] at h99
        have hk2 : k < rs[i].p.length := by omega
        obtain ⟨rb, ro, hra⟩ := grdL_at hrr hk2
        refine r_pslice rfl rfl rfl ?_
        refine r_pint rfl rfl rfl ?_
        refine r_w rfl rfl (fun w => q_indexSliceE i rfl el_64 rfl hka rfl rfl hi) ?_
        refine r_v rfl rfl (fun w hS => q_load1 rfl c1_29 rfl (row_cellL (i := 1) hS rfl hka (vgetL hi))) ?_
        refine r_pint rfl rfl rfl ?_
        refine r_w rfl rfl (fun w => q_indexSliceE k rfl el_29 rfl hra rfl rfl hk2) ?_
        refine r_v rfl rfl (fun w hS => q_load1 rfl c1_5 rfl (mks_cell (segL_rd hS (j := 2) rfl hi hig).2 hra hk2)) ?_
        refine r_pint rfl rfl rfl ?_
        refine r_pint rfl rfl rfl ?_
        refine r_do rfl ?_
        refine b_call rfl cb_89 rfl (markByte_ok H i k (by have := hok.1; omega) (by omega)) (fun v w hv => ?_)
        obtain ⟨rfl, H⟩ := hv
        refine l_nil ⟨fun _ _ => (by first | exact H | exact H.drop1 | exact H.drop1.drop1 | exact H.drop1.drop1.drop1), ?_⟩
        refine r_pbool rfl rfl rfl ?_
        refine r_pickT (v := .bool _) rfl rfl rfl rfl ?_
        refine r_pickF (v := .bool _) rfl rfl rfl rfl ?_
        refine r_nil ?_
        refine w_cond rfl (fun c7 => ?_) (fun c7 => ?_)
        · try simp only [sH] at c7
          exact absurd c7 (by simp)
        try simp only [sH] at c7
        refine w_skip ?_
        refine w_region ?_
        refine l_pint rfl rfl ?_
        first | refine l_v rfl (q_add rfl rfl rfl (by simp only [inK]; omega)) ?_ | refine l_pint rfl rfl ?_
        refine l_pint rfl rfl ?_
        refine l_nil ?_
        refine ⟨by repeat' first | exact aM | exact aR | refine aI rfl ?_ | refine aU rfl ?_ | refine aL rfl ?_, ?_⟩
        exact ⟨m - 1, k + 1, by omega, ⟨by exact congrArg (Value.int IntKind.i64) (Int.natCast_succ k).symm, trivial⟩, by omega, H⟩
      try simp only [sH] at h99
      refine r_no rfl rfl ?_
      refine r_no rfl rfl ?_
      refine r_no rfl rfl ?_
      refine r_no1 rfl rfl ?_
      refine r_no rfl rfl ?_
      refine r_no rfl rfl ?_
      refine r_no1 rfl rfl ?_
      refine r_no rfl rfl ?_
      refine r_no rfl rfl ?_
      refine r_do rfl (l_no rfl (l_nil ⟨fun _ _ => (by first | exact H | exact H.drop1 | exact H.drop1.drop1), ?_⟩))
      refine r_no rfl rfl ?_
      refine r_pickF (v := .bool _) rfl rfl rfl rfl ?_
      refine r_pickF (v := .bool _) rfl rfl rfl rfl ?_
      refine r_nil ?_
      refine w_cond_f rfl ?_
      refine w_skip ?_
      refine w_region ?_
      refine l_pint rfl rfl ?_
      first | refine l_v rfl (q_add rfl rfl rfl (by simp only [inK]; omega)) ?_ | refine l_pint rfl rfl ?_
      refine l_pint rfl rfl ?_
      refine l_nil ?_
      refine ⟨by repeat' first | exact aM | exact aR | refine aI rfl ?_ | refine aU rfl ?_ | refine aL rfl ?_, ?_⟩
      exact ⟨m - 1, k + 1, by omega, ⟨by exact congrArg (Value.int IntKind.i64) (Int.natCast_succ k).symm, trivial⟩, by omega, H⟩
    try simp only [sH] at c6
    refine w_exit ?_
    refine w_region ?_
    refine l_pint rfl rfl ?_
    first | refine l_v rfl (q_add rfl rfl rfl (by simp only [inK]; omega)) ?_ | refine l_pint rfl rfl ?_
    refine l_pint rfl rfl ?_
    refine l_nil ?_
    refine ⟨by repeat' first | exact aM | exact aR | refine aI rfl ?_ | refine aU rfl ?_ | refine aL rfl ?_, ?_⟩
    exact ⟨rs.length - (i + 1), i + 1, by omega, ⟨by exact congrArg (Value.int IntKind.i64) (Int.natCast_succ i).symm, trivial⟩, by omega, H⟩
  try simp only [sH] at c5
  refine w_exit ?_
  refine w_seq ?_
  refine w_region ?_
  refine l_pbool rfl rfl ?_
  refine l_nil ?_
  refine w_ret ?_
  refine fin1 (v := .bool _) rfl ?_
  exact ⟨rfl, H.drop1.drop1.drop1⟩
set_option maxRecDepth 8000 in
set_option maxHeartbeats 10000000000000 in
theorem apartInts_ok {W w : World} {F : List Seg} {rs : List LR} {ka : Option Addr} {kc bk : Nat} {bc : List Value} (H : St W w (row 23 1 ka rs.length kc (rs.map LR.v) :: Segs (rs.map (LR.seg 3)) :: blk bk bc 75 :: F)) (hok : LsOk rs) (hb : bc[1]? = some (.slice ka rs.length kc)) :
    Ok Try.prog 71 [.pointer (some ⟨bk, 0, none⟩)].toArray w (fun v w' => v = .bool true ∧ St W w' (blk bk bc 75 :: F)) := by
  have h12 := hok.1
  refine enter (n := 113) (rs := #[.tmp 2]) Try.func71 rfl rfl rfl rfl ?_
  refine w_seq ?_
  refine w_region ?_
  refine l_pbool rfl rfl ?_
  refine l_nil ?_
  refine w_seq ?_
  refine w_region ?_
  refine l_pptr rfl rfl ?_
  refine l_pptr rfl rfl ?_
  refine l_v rfl (q_fieldAddr rfl fo75_1 rfl) ?_
  refine l_v rfl (q_load1 rfl c1_65 rfl (H.cell 2 rfl hb)) ?_
  refine l_pslice rfl rfl ?_
  refine l_nil ?_
  refine w_seq ?_
  refine w_seq ?_
  refine w_region ?_
  refine l_pint rfl rfl ?_
  refine l_nil ?_
  refine w_block ?_
  refine w_loopG (G := Nat) [4, 5, 16, 17, 18, 19, 20, 21, 22, 23, 24, 25, 26, 27, 28, 29, 30, 31, 32, 33, 34, 35, 36, 37, 38, 39] (fun i => [(4, I ((i : Nat) : Int))]) (fun m i w => m + i = rs.length ∧ St W w (row 23 1 ka rs.length kc (rs.map LR.v) :: Segs (cntS 3 mkIn rs (i) (0)) :: blk bk bc 75 :: F)) (fun _ => rfl) ?_ ?_
  · refine ⟨rs.length, 0, ⟨rfl, trivial⟩, rfl, ?_⟩
    rw [cnt_zero]; exact H
  rintro m i ρ1 w ⟨hmi, H⟩
  refine w_seq ?_
  refine w_seq ?_
  refine w_region ?_
  refine l_pint rfl rfl ?_
  refine l_pslice rfl rfl ?_
  refine l_v rfl (q_lenSlice rfl el_65 rfl) ?_
  refine l_pbool rfl rfl ?_
  refine l_nil ?_
  refine w_cond rfl (fun c1 => ?_) (fun c1 => ?_)
  · try simp only [sH] at c1
    have hi : i < rs.length := by omega
    have hp := hok.get hi
    refine w_skip ?_
    refine w_seq ?_
    refine w_block ?_
    refine w_seq ?_
    refine w_region ?_
    refine l_pint rfl rfl ?_
    refine l_nil ?_
    refine w_block ?_
    refine w_loopG (G := Nat) [5, 22, 23, 24, 25, 26, 27, 28, 29, 30, 31, 32, 33, 34, 35, 36, 37, 38, 39] (fun k => [(5, I ((k : Nat) : Int))]) (fun m k w => m + k = rs[i].p.length ∧ St W w (row 23 1 ka rs.length kc (rs.map LR.v) :: Segs (cntS 3 mkIn rs (i) (k)) :: blk bk bc 75 :: F)) (fun _ => rfl) ?_ ?_
    · exact ⟨rs[i].p.length, 0, ⟨rfl, trivial⟩, rfl, H⟩
    rintro m k ρ1 w ⟨hmk, H⟩
    obtain ⟨kb, hka, hcell⟩ := row_addr (i := 0) H rfl (vgetL hi)
    refine w_seq ?_
    refine w_seq ?_
    refine w_region ?_
    refine l_pint rfl rfl ?_
    refine l_pslice rfl rfl ?_
    refine l_pint rfl rfl ?_
    refine l_v rfl (q_indexSliceE i rfl el_65 rfl hka rfl rfl hi) ?_
    refine l_v rfl (q_load1 rfl c1_23 rfl hcell) ?_
    refine l_v rfl (q_lenSlice rfl el_23 rfl) ?_
    refine l_pbool rfl rfl ?_
    refine l_nil ?_
    refine w_cond rfl (fun c2 => ?_) (fun c2 => ?_)
    · try simp only [sH] at c2
      have hk : k < rs[i].p.length := by omega
      have H2 := Segs.take i (cnt_get hi) (H.front 1 rfl)
      have hpl : (rs[i].prt mkIn i k).length = rs[i].p.length := prt_len (by omega)
      obtain ⟨rb, hra, _⟩ := rowF_addr (i := 0) (k := k) H2 rfl (List.getElem?_eq_getElem (by omega))
      have H := H2
      refine w_skip ?_
      refine w_seq ?_
      refine w_block ?_
      refine w_drawT [9] [3] [(0, 0), (1, 0), (2, 0), (3, 1), (4, 0), (5, 0), (6, 0), (7, 2), (8, 0), (9, 2)] mixed (by kernel_rfl) (fun _ _ _ h => fin_panic h) H (fun H => ?_)
      refine r_pslice rfl rfl rfl ?_
      refine r_pint rfl rfl rfl ?_
      refine r_w rfl rfl (fun w => q_indexSliceE i rfl el_65 rfl hka rfl rfl hi) ?_
      refine r_v rfl rfl (fun w hS => q_load1 rfl c1_23 rfl (row_cellL (i := 2) hS rfl hka (vgetL hi))) ?_
      refine r_pint rfl rfl rfl ?_
      refine r_pint rfl rfl rfl ?_
      refine r_pint rfl rfl rfl ?_
      refine r_do rfl ?_
      refine b_call rfl cb_90 rfl (markInt_ok H i k (by have := hok.1; omega) (by omega)) (fun v w hv => ?_)
      obtain ⟨rfl, H⟩ := hv
      refine l_nil ⟨fun _ _ => (by first | exact H | exact H.drop1 | exact H.drop1.drop1 | exact H.drop1.drop1.drop1), ?_⟩
      refine r_w rfl rfl (fun w => q_indexSliceE k rfl el_23 rfl hra rfl rfl hk) ?_
      refine r_do rfl ?_
      refine b_storeRowF (vs := [mkIn i k]) (xs' := rs[i].prt mkIn i (k + 1)) rfl sz_3 rfl rfl (by unfold mkIn; rfl) rfl (by simp [oneIn]) H 0 rfl hra (by rw [hpl]; simp; omega) (prt_set hk) (fun w H => ?_)
      refine l_nil ⟨(fun h => nomatch h), ?_⟩
      refine r_nil ?_
      refine w_region ?_
      refine l_pint rfl rfl ?_
      first | refine l_v rfl (q_add rfl rfl rfl (by simp only [inK]; omega)) ?_ | refine l_pint rfl rfl ?_
      refine l_pint rfl rfl ?_
      refine l_nil ?_
      refine ⟨by repeat' first | exact aM | exact aR | refine aI rfl ?_ | refine aU rfl ?_ | refine aL rfl ?_, ?_⟩
      refine ⟨m - 1, k + 1, by omega, ⟨by exact congrArg (Value.int IntKind.i64) (Int.natCast_succ k).symm, trivial⟩, by omega, ?_⟩
      have H3 : St W w (rs[i].sg 3 mkIn i (k + 1) :: Segs ((cntS 3 mkIn rs i k).eraseIdx i) :: row 23 1 ka rs.length kc (rs.map LR.v) :: blk bk bc 75 :: F) := H
      have H4 := Segs.put i (by rw [cnt_len]; exact hi) H3
      rw [cnt_set hi] at H4
      exact H4.front 1 rfl
    try simp only [sH] at c2
    refine w_exit ?_
    refine w_region ?_
    refine l_pint rfl rfl ?_
    first | refine l_v rfl (q_add rfl rfl rfl (by simp only [inK]; omega)) ?_ | refine l_pint rfl rfl ?_
    refine l_pint rfl rfl ?_
    refine l_nil ?_
    refine ⟨by repeat' first | exact aM | exact aR | refine aI rfl ?_ | refine aU rfl ?_ | refine aL rfl ?_, ?_⟩
    refine ⟨rs.length - (i + 1), i + 1, by omega, ⟨by exact congrArg (Value.int IntKind.i64) (Int.natCast_succ i).symm, trivial⟩, by omega, ?_⟩
    obtain rfl : k = rs[i].p.length := by omega
    rw [← cnt_next hi]; exact H
  try simp only [sH] at c1
  refine w_exit ?_
  refine w_seq ?_
  refine w_region ?_
  refine l_pslice rfl rfl ?_
  refine l_nil ?_
  refine w_seq ?_
  refine w_seq ?_
  refine w_region ?_
  refine l_pint rfl rfl ?_
  refine l_nil ?_
  refine w_block ?_
  refine w_loopG (G := Option Addr × Nat × List LR) [6, 7, 8, 9, 40, 41, 42, 43, 44, 45, 46, 47, 48, 49, 50, 51, 52, 53, 54, 55, 56, 57, 58, 59, 60, 61, 62, 63, 64] (fun ⟨ga, gc, gs⟩ => [(6, .slice ga gs.length gc), (7, I ((gs.length : Nat) : Int))]) (fun m ⟨ga, gc, gs⟩ w => m + gs.length = rs.length ∧ GOk mkIn rs gs ∧ St W w (row 23 1 ga gs.length gc (gs.map LR.v) :: row 23 1 ka rs.length kc (rs.map LR.v) :: Segs (gcn 3 mkIn rs gs.length gs) :: blk bk bc 75 :: F)) (fun _ => rfl) ?_ ?_
  · obtain rfl : i = rs.length := by omega
    refine ⟨rs.length, (none, 0, []), ⟨rfl, rfl, trivial⟩, rfl, (fun j hj => absurd hj (by simp)), ?_⟩
    have H2 := H.front 1 rfl
    have H3 : St W w (row 23 1 ka rs.length kc (rs.map LR.v) :: Segs (cntS 3 mkIn rs rs.length 0) :: blk bk bc 75 :: F) := H
    rw [← gcn_zero (gs := [])] at H3
    exact St.newRow H3
  rintro m ⟨ga, gc, gs⟩ ρ1 w ⟨hmi, hgo, H⟩
  refine w_seq ?_
  refine w_seq ?_
  refine w_region ?_
  refine l_pint rfl rfl ?_
  refine l_pslice rfl rfl ?_
  refine l_v rfl (q_lenSlice rfl el_65 rfl) ?_
  refine l_pbool rfl rfl ?_
  refine l_nil ?_
  refine w_cond rfl (fun c3 => ?_) (fun c3 => ?_)
  · try simp only [sH] at c3
    have hi : gs.length < rs.length := by omega
    have hp := hok.get hi
    obtain ⟨kb, hka, hcell⟩ := row_addr (i := 1) H rfl (vgetL hi)
    refine w_skip ?_
    refine w_seq ?_
    refine w_block ?_
    refine w_seq ?_
    refine w_region ?_
    refine l_pslice rfl rfl ?_
    refine l_pint rfl rfl ?_
    refine l_v rfl (q_indexSliceE gs.length rfl el_65 rfl hka rfl rfl hi) ?_
    refine l_v rfl (q_load1 rfl c1_23 rfl hcell) ?_
    refine l_pslice rfl rfl ?_
    refine l_nil ?_
    refine w_seq ?_
    refine w_seq ?_
    refine w_region ?_
    refine l_pint rfl rfl ?_
    refine l_nil ?_
    refine w_block ?_
    refine w_loopG (G := Nat × Nat × Option Addr × Nat) [8, 9, 50, 51, 52, 53, 54, 55, 56, 57, 58, 59, 60] (fun ⟨k, n, xa, xc⟩ => [(8, .slice xa n xc), (9, I ((k : Nat) : Int))]) (fun m ⟨k, n, xa, xc⟩ w => m + k = 70 ∧ n = rs[gs.length].p.length + k ∧ St W w (grS 3 mkIn gs.length rs[gs.length] k xa xc :: Segs ((gcn 3 mkIn rs gs.length gs).eraseIdx gs.length) :: row 23 1 ga gs.length gc (gs.map LR.v) :: row 23 1 ka rs.length kc (rs.map LR.v) :: blk bk bc 75 :: F)) (fun _ => rfl) ?_ ?_
    · exact ⟨70, (0, rs[gs.length].p.length, rs[gs.length].a, rs[gs.length].c), ⟨rfl, rfl, trivial⟩, rfl, rfl, gr_start (Segs.take gs.length (gcn_get hi) (H.front 2 rfl))⟩
    rintro m ⟨k, n, xa, xc⟩ ρ1 w ⟨hmk, hn, H⟩
    refine w_seq ?_
    refine w_seq ?_
    refine w_region ?_
    refine l_pint rfl rfl ?_
    refine l_pbool rfl rfl ?_
    refine l_nil ?_
    refine w_cond rfl (fun c4 => ?_) (fun c4 => ?_)
    · try simp only [sH] at c4
      refine w_skip ?_
      refine w_seq ?_
      refine w_block ?_
      refine w_region ?_
      refine l_pslice rfl rfl ?_
      refine l_pint rfl rfl ?_
      refine l_pslice rfl rfl ?_
      refine l_v rfl (q_lenSlice rfl el_23 rfl) ?_
      refine b_call rfl cb_90 rfl (markInt_ok H gs.length n (by have := hok.1; omega) (by omega)) (fun v w hv => ?_)
      obtain ⟨rfl, H⟩ := hv
      refine b_buildSlice (cs := [mkIn gs.length n]) rfl el_23 ze_3 rfl rfl rfl H (fun b59 w H => ?_)
      refine b_appendG (f := mkIn) rfl el_23 ze_3 rfl rfl hn rfl H (oneIn _ _) ⟨by omega, by simp only [maxLen]; omega⟩ (fun a60 c60 w H => ?_)
      refine l_pslice rfl rfl ?_
      refine l_nil ?_
      refine w_region ?_
      refine l_pint rfl rfl ?_
      first | refine l_v rfl (q_add rfl rfl rfl (by simp only [inK]; omega)) ?_ | refine l_pint rfl rfl ?_
      refine l_pint rfl rfl ?_
      refine l_nil ?_
      refine ⟨by repeat' first | exact aM | exact aR | refine aI rfl ?_ | refine aU rfl ?_ | refine aL rfl ?_, ?_⟩
      exact ⟨m - 1, (k + 1, n + 1, a60, c60), by omega, ⟨rfl, by exact congrArg (Value.int IntKind.i64) (Int.natCast_succ k).symm, trivial⟩, by omega, by omega, H⟩
    try simp only [sH] at c4
    obtain rfl : k = 70 := by omega
    subst hn
    refine w_exit ?_
    refine w_region ?_
    refine l_pslice rfl rfl ?_
    refine l_pslice rfl rfl ?_
    refine b_buildSlice (cs := [.slice xa (rs[gs.length].p.length + 70) xc]) rfl el_65 ze_23 rfl rfl rfl H (fun b63 w H => ?_)
    refine b_append rfl el_65 ze_23 rfl rfl rfl H 3 rfl (Rd.mk (H.cells0 0 rfl)) rfl (fun u hu => by obtain rfl := List.mem_singleton.1 hu; rfl) ⟨by omega, by simp only [maxLen]; omega⟩ (fun a64 c64 w H => ?_)
    refine l_pslice rfl rfl ?_
    refine l_nil ?_
    refine w_region ?_
    refine l_pint rfl rfl ?_
    first | refine l_v rfl (q_add rfl rfl rfl (by simp only [inK]; omega)) ?_ | refine l_pint rfl rfl ?_
    refine l_pint rfl rfl ?_
    refine l_nil ?_
    refine ⟨by repeat' first | exact aM | exact aR | refine aI rfl ?_ | refine aU rfl ?_ | refine aL rfl ?_, ?_⟩
    refine ⟨rs.length - (gs.length + 1), (a64, c64, gs ++ [⟨xa, xc, mks mkIn gs.length (rs[gs.length].p.length + 70)⟩]), by omega, ⟨congrArg (fun z => Value.slice a64 z c64) (by simp), congrArg (fun z : Nat => Value.int .i64 ((z : Nat) : Int)) (by simp), trivial⟩, by simp; omega, gok_snoc hgo hi rfl, ?_⟩
    have H3 : St W w (grS 3 mkIn gs.length rs[gs.length] 70 xa xc :: Segs ((gcn 3 mkIn rs gs.length gs).eraseIdx gs.length) :: row 23 1 a64 (gs.length + 1) c64 (gs.map LR.v ++ [.slice xa (rs[gs.length].p.length + 70) xc]) :: row 23 1 ka rs.length kc (rs.map LR.v) :: blk bk bc 75 :: F) := H.drop1
    have H4 := Segs.put gs.length (by rw [gcn_len]; exact hi) H3
    rw [gcn_set (g := ⟨xa, xc, mks mkIn gs.length (rs[gs.length].p.length + 70)⟩) hi rfl, ← gokL_v (f := mkIn) (i := gs.length)] at H4
    rw [show (gs ++ [(⟨xa, xc, mks mkIn gs.length (rs[gs.length].p.length + 70)⟩ : LR)]).length = gs.length + 1 by simp]
    exact ((H4.front 1 rfl).front 2 rfl).swap01
  try simp only [sH] at c3
  have hgl : gs.length = rs.length := by omega
  have ge : gcn 3 mkIn rs gs.length gs = gcn 3 mkIn rs rs.length gs := by rw [hgl]
  rw [ge] at H
  refine w_exit ?_
  refine w_seq ?_
  refine w_seq ?_
  refine w_region ?_
  refine l_pint rfl rfl ?_
  refine l_nil ?_
  refine w_block ?_
  refine w_loopG (G := Nat) [2, 10, 11, 65, 66, 67, 68, 69, 70, 71, 72, 73, 74, 75, 76, 77, 78, 79, 80, 81, 82, 83, 84, 85, 86, 87, 88, 89, 90, 91, 92, 93, 94, 95, 96, 97, 98, 99, 100, 101, 102, 103, 104, 105, 106, 107, 108, 109, 110, 111, 112] (fun i => [(10, I ((i : Nat) : Int))]) (fun m i w => m + i = rs.length ∧ St W w (row 23 1 ga gs.length gc (gs.map LR.v) :: row 23 1 ka rs.length kc (rs.map LR.v) :: Segs (gcn 3 mkIn rs rs.length gs) :: blk bk bc 75 :: F)) (fun _ => rfl) ?_ ?_
  · exact ⟨rs.length, 0, ⟨rfl, trivial⟩, rfl, H⟩
  rintro m i ρ1 w ⟨hmi, H⟩
  refine w_seq ?_
  refine w_seq ?_
  refine w_region ?_
  refine l_pint rfl rfl ?_
  refine l_pslice rfl rfl ?_
  refine l_v rfl (q_lenSlice rfl el_65 rfl) ?_
  refine l_pbool rfl rfl ?_
  refine l_nil ?_
  refine w_cond rfl (fun c5 => ?_) (fun c5 => ?_)
  · try simp only [sH] at c5
    have hi : i < rs.length := by omega
    have hp := hok.get hi
    have hig : i < gs.length := by omega
    have hgp := hgo i hig hi
    refine w_skip ?_
    refine w_seq ?_
    refine w_block ?_
    refine w_seq ?_
    refine w_region ?_
    refine l_pint rfl rfl ?_
    refine l_nil ?_
    refine w_block ?_
    refine w_loopG (G := Nat) [2, 11, 71, 72, 73, 74, 75, 76, 77, 78, 79, 80, 81, 82, 83, 84, 85, 86, 87, 88, 89, 90, 91, 92, 93, 94, 95, 96, 97, 98, 99, 100, 101, 102, 103, 104, 105, 106, 107, 108, 109, 110, 111, 112] (fun k => [(11, I ((k : Nat) : Int))]) (fun m k w => m + k = gs[i].p.length ∧ St W w (row 23 1 ga gs.length gc (gs.map LR.v) :: row 23 1 ka rs.length kc (rs.map LR.v) :: Segs (gcn 3 mkIn rs rs.length gs) :: blk bk bc 75 :: F)) (fun _ => rfl) ?_ ?_
    · exact ⟨gs[i].p.length, 0, ⟨rfl, trivial⟩, rfl, H⟩
    rintro m k ρ1 w ⟨hmk, H⟩
    obtain ⟨gb, hga, hgcell⟩ := row_addr (i := 0) H rfl (vgetL hig)
    obtain ⟨kb, hka, hcell⟩ := row_addr (i := 1) H rfl (vgetL hi)
    refine w_seq ?_
    refine w_seq ?_
    refine w_region ?_
    refine l_pint rfl rfl ?_
    refine l_pslice rfl rfl ?_
    refine l_pint rfl rfl ?_
    refine l_v rfl (q_indexSliceE i rfl el_65 rfl hga rfl rfl hig) ?_
    refine l_v rfl (q_load1 rfl c1_23 rfl hgcell) ?_
    refine l_v rfl (q_lenSlice rfl el_23 rfl) ?_
    refine l_pbool rfl rfl ?_
    refine l_nil ?_
    refine w_cond rfl (fun c6 => ?_) (fun c6 => ?_)
    · try simp only [sH] at c6
      have hkg : k < gs[i].p.length := by omega
      have hk : k < rs[i].p.length + 70 := by have e := congrArg List.length hgp; rw [mks_len] at e; omega
      obtain ⟨xb, xo, hxa⟩ := grdL_at (segL_rd H (j := 2) rfl hi hig).1 hk
      have hrr := (segL_rd H (j := 2) rfl hi hig).2
      refine w_skip ?_
      refine w_seq ?_
      refine w_block ?_
      refine w_seq ?_
      refine w_drawT [] [3, 6, 16, 23, 26] [(0, 0), (1, 0), (2, 0), (3, 1), (4, 0), (5, 0), (6, 1), (7, 0), (8, 0), (9, 2), (10, 0), (11, 0), (12, 0), (13, 0), (14, 0), (15, 0), (16, 1), (17, 0), (18, 0), (19, 0), (20, 0), (21, 0), (22, 0), (23, 1), (24, 0), (25, 0), (26, 1), (27, 0), (28, 0), (29, 2), (30, 0), (31, 0), (32, 0)] mixed (by kernel_rfl) (fun _ _ _ h => fin_panic h) H (fun H => ?_)
      refine r_pslice rfl rfl rfl ?_
      refine r_pint rfl rfl rfl ?_
      refine r_w rfl rfl (fun w => q_indexSliceE i rfl el_65 rfl hga rfl rfl hig) ?_
      refine r_v rfl rfl (fun w hS => q_load1 rfl c1_23 rfl (row_cellL (i := 0) hS rfl hga (vgetL hig))) ?_
      refine r_pint rfl rfl rfl ?_
      refine r_w rfl rfl (fun w => q_indexSliceE k rfl el_23 rfl hxa rfl rfl hkg) ?_
      refine r_v rfl rfl (fun w hS => q_load1 rfl c1_3 rfl (mks_cell (segL_rd hS (j := 2) rfl hi hig).1 hxa hk)) ?_
      refine r_pint rfl rfl rfl ?_
      refine r_pint rfl rfl rfl ?_
      refine r_do rfl ?_
      refine b_call rfl cb_90 rfl (markInt_ok H i k (by have := hok.1; omega) (by omega)) (fun v w hv => ?_)
      obtain ⟨rfl, H⟩ := hv
      refine l_nil ⟨fun _ _ => (by first | exact H | exact H.drop1 | exact H.drop1.drop1 | exact H.drop1.drop1.drop1), ?_⟩
      refine r_pbool rfl rfl rfl ?_
      refine r_pbool rfl rfl rfl ?_
      refine r_split 91 rfl (fun h91 => absurd h91 (by simp)) (fun h91 => ?_)
      try simp only [sH] at h91
      refine r_pint rfl rfl rfl ?_
      refine r_pslice rfl rfl rfl ?_
      refine r_pint rfl rfl rfl ?_
      refine r_w rfl rfl (fun w => q_indexSliceE i rfl el_65 rfl hka rfl rfl hi) ?_
      refine r_v rfl rfl (fun w hS => q_load1 rfl c1_23 rfl (row_cellL (i := 1) hS rfl hka (vgetL hi))) ?_
      refine r_w rfl rfl (fun w => q_lenSlice rfl el_23 rfl) ?_
      refine r_pbool rfl rfl rfl ?_
      refine r_pbool rfl rfl rfl ?_
      refine r_split 99 rfl (fun h99 => ?_) (fun h99 => ?_)
      · try simp only [sH] at h99
        have hk2 : k < rs[i].p.length := by omega
        obtain ⟨rb, ro, hra⟩ := grdL_at hrr hk2
        refine r_pslice rfl rfl rfl ?_
        refine r_pint rfl rfl rfl ?_
        refine r_w rfl rfl (fun w => q_indexSliceE i rfl el_65 rfl hka rfl rfl hi) ?_
        refine r_v rfl rfl (fun w hS => q_load1 rfl c1_23 rfl (row_cellL (i := 1) hS rfl hka (vgetL hi))) ?_
        refine r_pint rfl rfl rfl ?_
        refine r_w rfl rfl (fun w => q_indexSliceE k rfl el_23 rfl hra rfl rfl hk2) ?_
        refine r_v rfl rfl (fun w hS => q_load1 rfl c1_3 rfl (mks_cell (segL_rd hS (j := 2) rfl hi hig).2 hra hk2)) ?_
        refine r_pint rfl rfl rfl ?_
        refine r_pint rfl rfl rfl ?_
        refine r_do rfl ?_
        refine b_call rfl cb_90 rfl (markInt_ok H i k (by have := hok.1; omega) (by omega)) (fun v w hv => ?_)
        obtain ⟨rfl, H⟩ := hv
        refine l_nil ⟨fun _ _ => (by first | exact H | exact H.drop1 | exact H.drop1.drop1 | exact H.drop1.drop1.drop1), ?_⟩
        refine r_pbool rfl rfl rfl ?_
        refine r_pickT (v := .bool _) rfl rfl rfl rfl ?_
        refine r_pickF (v := .bool _) rfl rfl rfl rfl ?_
        refine r_nil ?_
        refine w_cond rfl (fun c7 => ?_) (fun c7 => ?_)
        · try simp only [sH] at c7
          exact absurd c7 (by simp)
        try simp only [sH] at c7
        refine w_skip ?_
        refine w_region ?_
        refine l_pint rfl rfl ?_
        first | refine l_v rfl (q_add rfl rfl rfl (by simp only [inK]; omega)) ?_ | refine l_pint rfl rfl ?_
        refine l_pint rfl rfl ?_
        refine l_nil ?_
        refine ⟨by repeat' first | exact aM | exact aR | refine aI rfl ?_ | refine aU rfl ?_ | refine aL rfl ?_, ?_⟩
        exact ⟨m - 1, k + 1, by omega, ⟨by exact congrArg (Value.int IntKind.i64) (Int.natCast_succ k).symm, trivial⟩, by omega, H⟩
      try simp only [sH] at h99
      refine r_no rfl rfl ?_
      refine r_no rfl rfl ?_
      refine r_no rfl rfl ?_
      refine r_no1 rfl rfl ?_
      refine r_no rfl rfl ?_
      refine r_no rfl rfl ?_
      refine r_no1 rfl rfl ?_
      refine r_no rfl rfl ?_
      refine r_no rfl rfl ?_
      refine r_do rfl (l_no rfl (l_nil ⟨fun _ _ => (by first | exact H | exact H.drop1 | exact H.drop1.drop1), ?_⟩))
      refine r_no rfl rfl ?_
      refine r_pickF (v := .bool _) rfl rfl rfl rfl ?_
      refine r_pickF (v := .bool _) rfl rfl rfl rfl ?_
      refine r_nil ?_
      refine w_cond_f rfl ?_
      refine w_skip ?_
      refine w_region ?_
      refine l_pint rfl rfl ?_
      first | refine l_v rfl (q_add rfl rfl rfl (by simp only [inK]; omega)) ?_ | refine l_pint rfl rfl ?_
      refine l_pint rfl rfl ?_
      refine l_nil ?_
      refine ⟨by repeat' first | exact aM | exact aR | refine aI rfl ?_ | refine aU rfl ?_ | refine aL rfl ?_, ?_⟩
      exact ⟨m - 1, k + 1, by omega, ⟨by exact congrArg (Value.int IntKind.i64) (Int.natCast_succ k).symm, trivial⟩, by omega, H⟩
    try simp only [sH] at c6
    refine w_exit ?_
    refine w_region ?_
    refine l_pint rfl rfl ?_
    first | refine l_v rfl (q_add rfl rfl rfl (by simp only [inK]; omega)) ?_ | refine l_pint rfl rfl ?_
    refine l_pint rfl rfl ?_
    refine l_nil ?_
    refine ⟨by repeat' first | exact aM | exact aR | refine aI rfl ?_ | refine aU rfl ?_ | refine aL rfl ?_, ?_⟩
    exact ⟨rs.length - (i + 1), i + 1, by omega, ⟨by exact congrArg (Value.int IntKind.i64) (Int.natCast_succ i).symm, trivial⟩, by omega, H⟩
  try simp only [sH] at c5
  refine w_exit ?_
  refine w_seq ?_
  refine w_region ?_
  refine l_pbool rfl rfl ?_
  refine l_nil ?_
  refine w_ret ?_
  refine fin1 (v := .bool _) rfl ?_
  exact ⟨rfl, H.drop1.drop1.drop1⟩
end Go.Proofs.Ytmgcmgfjaimlnaa
