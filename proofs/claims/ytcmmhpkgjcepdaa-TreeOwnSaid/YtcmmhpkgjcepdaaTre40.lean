/- The law's helper apart marks and grows lists of hashes that share nothing. -/
import Derived.Test.YtcmmhpkgjcepdaaTre39
namespace Go.Proofs.Ytcmmhpkgjcepdaa
open Go.EW
attribute [local irreducible] EW.W EW.L EW.fin block8 outB shaL
set_option linter.unusedVariables false
set_option linter.unusedSimpArgs false
attribute [local irreducible] swp headH leafH nodeH inclN sidesN bothN lenN splitN upN incdR extR incR conR unlikeN oneB metB hatT inclT conT askT

theorem vget {rs : List PR} {i : Nat} (hi : i < rs.length) : (rs.map PR.v)[i]? = some (rs[i].v) := by rw [List.getElem?_map, List.getElem?_eq_getElem hi]; rfl
theorem path_some {p : List (List UInt8)} (hp : PathOk p) {k : Nat} (hk : k < p.length) : (pathV p)[k * 32]? = some ((pathV p)[k * 32]'(by rw [pathV_len p hp]; omega)) := List.getElem?_eq_getElem _
theorem prt_get {i k : Nat} {r : PR} (h : k < r.p.length) : (r.prt i k).length = r.p.length := prt_len (by omega)
def RsOk (rs : List PR) : Prop := rs.length ≤ 12 ∧ ∀ r ∈ rs, PathOk r.p ∧ r.p.length ≤ 1000
theorem RsOk.get {rs : List PR} (h : RsOk rs) {i : Nat} (hi : i < rs.length) : PathOk rs[i].p ∧ rs[i].p.length ≤ 1000 := h.2 _ (List.getElem_mem hi)
theorem gok_v {gs : List PR} {a : Option Addr} {c i n : Nat} : (gs ++ [(⟨a, c, mks i n⟩ : PR)]).map PR.v = gs.map PR.v ++ [.slice a n c] := by
  rw [List.map_append]
  simp [PR.v, mks_len]
theorem row_cell {W w : World} {S : List Seg} {T sz m cap k b : Nat} {a : Option Addr} {xs : List Value} {v : Value} {i : Nat} (H : St W w S) (hi : S[i]? = some (row T sz a m cap xs)) (ha : a = some ⟨b, 0, none⟩) (hk : xs[k]? = some v) : w.cell? ⟨b, 0 + k * 1, none⟩ = some v := by
  obtain ⟨b', h, hc⟩ := row_addr H hi hk
  rw [ha] at h
  cases h
  exact hc
theorem gr_cells {w : World} {ga : Option Addr} {i n k b o : Nat} (hrd : Rd w ga (pathV (mks i n))) (ha : ga = some ⟨b, o, none⟩) (hk : k < n) : Cells w b (o + k * 32) ((mk i k).map B) := by
  have h := path_at2 ha (mks_ok i n) hrd (i := k) (by rw [mks_len]; exact hk)
  rwa [mks_get] at h
theorem seg_rd {W w : World} {S : List Seg} {rs gs : List PR} {i j : Nat} (H : St W w S) (hj : S[j]? = some (Segs (gcn rs rs.length gs))) (hi : i < rs.length) (hg : i < gs.length) : Rd w gs[i].a (pathV (mks i (rs[i].p.length + 12))) ∧ Rd w rs[i].a (pathV (mks i rs[i].p.length)) :=
  gr_rd (j := 0) (Segs.take i (gcn_got hi hi hg) (H.front j hj)) rfl
theorem grd_at {w : World} {a : Option Addr} {i n k : Nat} (h : Rd w a (pathV (mks i n))) (hk : k < n) : ∃ b o, a = some ⟨b, o, none⟩ := by
  obtain ⟨b, o, e, _⟩ := h (k * 32) _ (path_some (mks_ok i n) (by rw [mks_len]; exact hk))
  exact ⟨b, o, e⟩

set_option maxRecDepth 8000 in
set_option maxHeartbeats 1000000 in
theorem apart_ok {W w : World} {F : List Seg} {rs : List PR} {ka : Option Addr} {kc : Nat} (H : St W w (row 42 1 ka rs.length kc (rs.map PR.v) :: Segs (rs.map PR.seg) :: F)) (hok : RsOk rs) :
    Ok Try.prog 47 [.slice ka rs.length kc].toArray w (fun v w' => v = .bool true ∧ St W w' F) := by
  have h12 := hok.1
  refine enter (n := 114) (rs := #[.tmp 2]) Try.func47 rfl rfl rfl rfl ?_
  refine w_seq ?_
  refine w_region ?_
  refine l_pbool rfl rfl ?_
  refine l_nil ?_
  refine w_seq ?_
  refine w_seq ?_
  refine w_region ?_
  refine l_pint rfl rfl ?_
  refine l_nil ?_
  refine w_block ?_
  refine w_loopG (G := Nat) [3, 4, 12, 13, 14, 15, 16, 17, 18, 19, 20, 21, 22, 23, 24, 25, 26, 27, 28, 29, 30, 31, 32, 33, 34, 35, 36, 37] (fun i => [(3, .int .i64 ((i : Nat) : Int))]) (fun m i w => m + i = rs.length ∧ St W w (row 42 1 ka rs.length kc (rs.map PR.v) :: Segs (cnt rs (i) (0)) :: F)) (fun _ => rfl) ?_ ?_
  · refine ⟨rs.length, 0, ⟨rfl, trivial⟩, rfl, ?_⟩
    rw [cnt_zero]; exact H
  · rintro m i ρ1 w ⟨hmi, H⟩
    refine w_seq ?_
    refine w_seq ?_
    refine w_region ?_
    refine l_pint rfl rfl ?_
    refine l_pslice rfl rfl ?_
    refine l_v rfl (q_lenSlice rfl el_73 rfl) ?_
    refine l_pbool rfl rfl ?_
    refine l_nil ?_
    refine w_cond rfl (fun c1 => ?_) (fun c1 => ?_)
    · try simp only [decide_eq_true_eq, decide_eq_false_iff_not, Bool.not_eq_true', Bool.not_eq_false', beq_iff_eq, beq_eq_false_iff_ne, bne_iff_ne, bne_eq_false_iff_eq, ne_eq, Int.not_lt, Int.not_le] at c1
      have hi : i < rs.length := by omega
      have hp := hok.get hi
      refine w_skip ?_
      refine w_seq ?_
      refine w_block ?_
      refine w_seq ?_
      refine w_region ?_
      refine l_pint rfl rfl ?_
      refine l_nil ?_
      refine w_block ?_
      refine w_loopG (G := Nat) [4, 18, 19, 20, 21, 22, 23, 24, 25, 26, 27, 28, 29, 30, 31, 32, 33, 34, 35, 36, 37] (fun k => [(4, .int .i64 ((k : Nat) : Int))]) (fun m k w => m + k = rs[i].p.length ∧ St W w (row 42 1 ka rs.length kc (rs.map PR.v) :: Segs (cnt rs (i) (k)) :: F)) (fun _ => rfl) ?_ ?_
      · exact ⟨rs[i].p.length, 0, ⟨rfl, trivial⟩, rfl, H⟩
      · rintro m k ρ1 w ⟨hmk, H⟩
        obtain ⟨kb, hka, hcell⟩ := row_addr (i := 0) H rfl (vget hi)
        refine w_seq ?_
        refine w_seq ?_
        refine w_region ?_
        refine l_pint rfl rfl ?_
        refine l_pslice rfl rfl ?_
        refine l_pint rfl rfl ?_
        refine l_v rfl (q_indexSliceE i rfl el_73 rfl hka rfl rfl hi) ?_
        refine l_v rfl (q_load1 rfl c1_42 rfl hcell) ?_
        refine l_v rfl (q_lenSlice rfl el_42 rfl) ?_
        refine l_pbool rfl rfl ?_
        refine l_nil ?_
        refine w_cond rfl (fun c2 => ?_) (fun c2 => ?_)
        · try simp only [decide_eq_true_eq, decide_eq_false_iff_not, Bool.not_eq_true', Bool.not_eq_false', beq_iff_eq, beq_eq_false_iff_ne, bne_iff_ne, bne_eq_false_iff_eq, ne_eq, Int.not_lt, Int.not_le] at c2
          have hk : k < rs[i].p.length := by omega
          have H2 := Segs.take i (cnt_get hi) (H.front 1 rfl)
          have hpo : PathOk (rs[i].prt i k) := prt_ok hp.1
          have hpl : (rs[i].prt i k).length = rs[i].p.length := prt_len (by omega)
          obtain ⟨rb, hra, _⟩ := row_addr (i := 0) H2 rfl (path_some hpo (k := k) (by omega))
          have H := H2
          refine w_skip ?_
          refine w_seq ?_
          refine w_block ?_
          refine w_region ?_
          refine l_pslice rfl rfl ?_
          refine l_pint rfl rfl ?_
          refine l_v rfl (q_indexSliceE i rfl el_73 rfl hka rfl rfl hi) ?_
          refine l_v rfl (q_load1 rfl c1_42 rfl hcell) ?_
          refine l_pint rfl rfl ?_
          refine l_pint rfl rfl ?_
          refine l_v rfl (q_lowN (M := i) rfl (by kernel_rfl) in_5 rfl) ?_
          refine l_pint rfl rfl ?_
          refine l_v rfl (q_lowN (M := k) rfl (by kernel_rfl) in_5 rfl) ?_
          refine l_v rfl (q_buildArr (cs := (mk (i) (k)).map B) rfl ar_24 ze_24 rfl) ?_
          refine l_v rfl (q_indexSliceE k rfl el_42 rfl hra rfl rfl hk) ?_
          refine b_storeRow (vs := (mk i k).map B) (xs' := pathV (rs[i].prt i (k + 1))) rfl sz_24 rfl rfl rfl rfl (all1 _) H 0 rfl hra (by rw [pathV_len _ hpo, List.length_map, mk_len]; omega) (by rw [path_set hpo (mk_len i k) (by omega), prt_set hk]) (fun w H => ?_)
          refine l_nil ?_
          refine w_region ?_
          refine l_pint rfl rfl ?_
          first | refine l_v rfl (q_add rfl rfl rfl (by simp only [inK]; omega)) ?_ | refine l_pint rfl rfl ?_
          refine l_pint rfl rfl ?_
          refine l_nil ?_
          refine ⟨by repeat' first | exact Agr.mix _ _ _ | exact Agr.refl _ _ | refine Agr.inner rfl ?_ | refine Agr.upd rfl ?_ | refine Agr.updL' rfl ?_, ?_⟩
          refine ⟨m - 1, k + 1, by omega, ⟨by exact congrArg (Value.int IntKind.i64) (Int.natCast_succ k).symm, trivial⟩, by omega, ?_⟩
          have H3 : St W w (rs[i].sg i (k + 1) :: Segs ((cnt rs i k).eraseIdx i) :: row 42 1 ka rs.length kc (rs.map PR.v) :: F) := H
          have H4 := Segs.put i (by rw [cnt_len]; exact hi) H3
          rw [cnt_set hi] at H4
          exact H4.front 1 rfl
        · try simp only [decide_eq_true_eq, decide_eq_false_iff_not, Bool.not_eq_true', Bool.not_eq_false', beq_iff_eq, beq_eq_false_iff_ne, bne_iff_ne, bne_eq_false_iff_eq, ne_eq, Int.not_lt, Int.not_le] at c2
          refine w_exit ?_
          refine w_region ?_
          refine l_pint rfl rfl ?_
          first | refine l_v rfl (q_add rfl rfl rfl (by simp only [inK]; omega)) ?_ | refine l_pint rfl rfl ?_
          refine l_pint rfl rfl ?_
          refine l_nil ?_
          refine ⟨by repeat' first | exact Agr.mix _ _ _ | exact Agr.refl _ _ | refine Agr.inner rfl ?_ | refine Agr.upd rfl ?_ | refine Agr.updL' rfl ?_, ?_⟩
          refine ⟨rs.length - (i + 1), i + 1, by omega, ⟨by exact congrArg (Value.int IntKind.i64) (Int.natCast_succ i).symm, trivial⟩, by omega, ?_⟩
          obtain rfl : k = rs[i].p.length := by omega
          rw [← cnt_next hi]; exact H
    · try simp only [decide_eq_true_eq, decide_eq_false_iff_not, Bool.not_eq_true', Bool.not_eq_false', beq_iff_eq, beq_eq_false_iff_ne, bne_iff_ne, bne_eq_false_iff_eq, ne_eq, Int.not_lt, Int.not_le] at c1
      refine w_exit ?_
      refine w_seq ?_
      refine w_region ?_
      refine l_pslice rfl rfl ?_
      refine l_nil ?_
      refine w_seq ?_
      refine w_seq ?_
      refine w_region ?_
      refine l_pint rfl rfl ?_
      refine l_nil ?_
      refine w_block ?_
      refine w_loopG (G := Option Addr × Nat × List PR) [5, 6, 7, 8, 38, 39, 40, 41, 42, 43, 44, 45, 46, 47, 48, 49, 50, 51, 52, 53, 54, 55, 56, 57, 58, 59, 60, 61, 62, 63, 64] (fun ⟨ga, gc, gs⟩ => [(5, .slice ga gs.length gc), (6, .int .i64 ((gs.length : Nat) : Int))]) (fun m ⟨ga, gc, gs⟩ w => m + gs.length = rs.length ∧ GOk rs gs ∧ St W w (row 42 1 ga gs.length gc (gs.map PR.v) :: row 42 1 ka rs.length kc (rs.map PR.v) :: Segs (gcn rs gs.length gs) :: F)) (fun _ => rfl) ?_ ?_
      · obtain rfl : i = rs.length := by omega
        refine ⟨rs.length, (none, 0, []), ⟨rfl, rfl, trivial⟩, rfl, (fun j hj => absurd hj (by simp)), ?_⟩
        have H2 := H.front 1 rfl
        have H3 : St W w (row 42 1 ka rs.length kc (rs.map PR.v) :: Segs (cnt rs rs.length 0) :: F) := H
        rw [← gcn_zero (gs := [])] at H3
        exact St.newRow H3
      · rintro m ⟨ga, gc, gs⟩ ρ1 w ⟨hmi, hgo, H⟩
        refine w_seq ?_
        refine w_seq ?_
        refine w_region ?_
        refine l_pint rfl rfl ?_
        refine l_pslice rfl rfl ?_
        refine l_v rfl (q_lenSlice rfl el_73 rfl) ?_
        refine l_pbool rfl rfl ?_
        refine l_nil ?_
        refine w_cond rfl (fun c3 => ?_) (fun c3 => ?_)
        · try simp only [decide_eq_true_eq, decide_eq_false_iff_not, Bool.not_eq_true', Bool.not_eq_false', beq_iff_eq, beq_eq_false_iff_ne, bne_iff_ne, bne_eq_false_iff_eq, ne_eq, Int.not_lt, Int.not_le] at c3
          have hi : gs.length < rs.length := by omega
          have hp := hok.get hi
          obtain ⟨kb, hka, hcell⟩ := row_addr (i := 1) H rfl (vget hi)
          refine w_skip ?_
          refine w_seq ?_
          refine w_block ?_
          refine w_seq ?_
          refine w_region ?_
          refine l_pslice rfl rfl ?_
          refine l_pint rfl rfl ?_
          refine l_v rfl (q_indexSliceE gs.length rfl el_73 rfl hka rfl rfl hi) ?_
          refine l_v rfl (q_load1 rfl c1_42 rfl hcell) ?_
          refine l_pslice rfl rfl ?_
          refine l_nil ?_
          refine w_seq ?_
          refine w_seq ?_
          refine w_region ?_
          refine l_pint rfl rfl ?_
          refine l_nil ?_
          refine w_block ?_
          refine w_loopG (G := Nat × Nat × Option Addr × Nat) [7, 8, 48, 49, 50, 51, 52, 53, 54, 55, 56, 57, 58, 59, 60] (fun ⟨k, n, xa, xc⟩ => [(7, .slice xa n xc), (8, .int .i64 ((k : Nat) : Int))]) (fun m ⟨k, n, xa, xc⟩ w => m + k = 12 ∧ n = rs[gs.length].p.length + k ∧ St W w (grS gs.length rs[gs.length] k xa xc :: Segs ((gcn rs gs.length gs).eraseIdx gs.length) :: row 42 1 ga gs.length gc (gs.map PR.v) :: row 42 1 ka rs.length kc (rs.map PR.v) :: F)) (fun _ => rfl) ?_ ?_
          · exact ⟨12, (0, rs[gs.length].p.length, rs[gs.length].a, rs[gs.length].c), ⟨rfl, rfl, trivial⟩, rfl, rfl, gr_start (Segs.take gs.length (gcn_get hi) (H.front 2 rfl))⟩
          · rintro m ⟨k, n, xa, xc⟩ ρ1 w ⟨hmk, hn, H⟩
            refine w_seq ?_
            refine w_seq ?_
            refine w_region ?_
            refine l_pint rfl rfl ?_
            refine l_pbool rfl rfl ?_
            refine l_nil ?_
            refine w_cond rfl (fun c4 => ?_) (fun c4 => ?_)
            · try simp only [decide_eq_true_eq, decide_eq_false_iff_not, Bool.not_eq_true', Bool.not_eq_false', beq_iff_eq, beq_eq_false_iff_ne, bne_iff_ne, bne_eq_false_iff_eq, ne_eq, Int.not_lt, Int.not_le] at c4
              refine w_skip ?_
              refine w_seq ?_
              refine w_block ?_
              refine w_region ?_
              refine l_pslice rfl rfl ?_
              refine l_pint rfl rfl ?_
              refine l_v rfl (q_lowN (M := gs.length) rfl (by kernel_rfl) in_5 rfl) ?_
              refine l_pslice rfl rfl ?_
              refine l_v rfl (q_lenSlice rfl el_42 rfl) ?_
              refine l_v rfl (q_lowN (M := n) rfl (by kernel_rfl) in_5 rfl) ?_
              refine l_v rfl (q_buildArr (cs := (mk (gs.length) (n)).map B) rfl ar_24 ze_24 rfl) ?_
              refine b_buildSlice (cs := (mk gs.length (n)).map B) rfl el_42 ze_24 rfl rfl (fill_hash (mk_len _ _)) H (fun b59 w H => ?_)
              refine b_appendG rfl rfl hn rfl H (by omega) (fun a60 c60 w H => ?_)
              refine l_pslice rfl rfl ?_
              refine l_nil ?_
              refine w_region ?_
              refine l_pint rfl rfl ?_
              first | refine l_v rfl (q_add rfl rfl rfl (by simp only [inK]; omega)) ?_ | refine l_pint rfl rfl ?_
              refine l_pint rfl rfl ?_
              refine l_nil ?_
              refine ⟨by repeat' first | exact Agr.mix _ _ _ | exact Agr.refl _ _ | refine Agr.inner rfl ?_ | refine Agr.upd rfl ?_ | refine Agr.updL' rfl ?_, ?_⟩
              exact ⟨m - 1, (k + 1, n + 1, a60, c60), by omega, ⟨rfl, by exact congrArg (Value.int IntKind.i64) (Int.natCast_succ k).symm, trivial⟩, by omega, by omega, H⟩
            · try simp only [decide_eq_true_eq, decide_eq_false_iff_not, Bool.not_eq_true', Bool.not_eq_false', beq_iff_eq, beq_eq_false_iff_ne, bne_iff_ne, bne_eq_false_iff_eq, ne_eq, Int.not_lt, Int.not_le] at c4
              obtain rfl : k = 12 := by omega
              subst hn
              refine w_exit ?_
              refine w_region ?_
              refine l_pslice rfl rfl ?_
              refine l_pslice rfl rfl ?_
              refine b_buildSlice (cs := [.slice xa (rs[gs.length].p.length + 12) xc]) rfl el_73 ze_42 rfl rfl rfl H (fun b63 w H => ?_)
              refine b_append rfl el_73 ze_42 rfl rfl rfl H 3 rfl (Rd.mk (H.cells0 0 rfl)) rfl (fun u hu => by obtain rfl := List.mem_singleton.1 hu; rfl) ⟨by omega, by simp only [maxLen]; omega⟩ (fun a64 c64 w H => ?_)
              refine l_pslice rfl rfl ?_
              refine l_nil ?_
              refine w_region ?_
              refine l_pint rfl rfl ?_
              first | refine l_v rfl (q_add rfl rfl rfl (by simp only [inK]; omega)) ?_ | refine l_pint rfl rfl ?_
              refine l_pint rfl rfl ?_
              refine l_nil ?_
              refine ⟨by repeat' first | exact Agr.mix _ _ _ | exact Agr.refl _ _ | refine Agr.inner rfl ?_ | refine Agr.upd rfl ?_ | refine Agr.updL' rfl ?_, ?_⟩
              refine ⟨rs.length - (gs.length + 1), (a64, c64, gs ++ [⟨xa, xc, mks gs.length (rs[gs.length].p.length + 12)⟩]), by omega, ⟨congrArg (fun z => Value.slice a64 z c64) (by simp), congrArg (fun z : Nat => Value.int .i64 ((z : Nat) : Int)) (by simp), trivial⟩, by simp; omega, gok_snoc hgo hi rfl, ?_⟩
              have H3 : St W w (grS gs.length rs[gs.length] 12 xa xc :: Segs ((gcn rs gs.length gs).eraseIdx gs.length) :: row 42 1 a64 (gs.length + 1) c64 (gs.map PR.v ++ [.slice xa (rs[gs.length].p.length + 12) xc]) :: row 42 1 ka rs.length kc (rs.map PR.v) :: F) := H.drop1
              have H4 := Segs.put gs.length (by rw [gcn_len]; exact hi) H3
              rw [gcn_set (g := ⟨xa, xc, mks gs.length (rs[gs.length].p.length + 12)⟩) hi rfl, ← gok_v (i := gs.length)] at H4
              rw [show (gs ++ [(⟨xa, xc, mks gs.length (rs[gs.length].p.length + 12)⟩ : PR)]).length = gs.length + 1 by simp]
              exact ((H4.front 1 rfl).front 2 rfl).swap01
        · try simp only [decide_eq_true_eq, decide_eq_false_iff_not, Bool.not_eq_true', Bool.not_eq_false', beq_iff_eq, beq_eq_false_iff_ne, bne_iff_ne, bne_eq_false_iff_eq, ne_eq, Int.not_lt, Int.not_le] at c3
          have hgl : gs.length = rs.length := by omega
          have ge : gcn rs gs.length gs = gcn rs rs.length gs := by rw [hgl]
          rw [ge] at H
          refine w_exit ?_
          refine w_seq ?_
          refine w_seq ?_
          refine w_region ?_
          refine l_pint rfl rfl ?_
          refine l_nil ?_
          refine w_block ?_
          refine w_loopG (G := Nat) [2, 9, 10, 11, 65, 66, 67, 68, 69, 70, 71, 72, 73, 74, 75, 76, 77, 78, 79, 80, 81, 82, 83, 84, 85, 86, 87, 88, 89, 90, 91, 92, 93, 94, 95, 96, 97, 98, 99, 100, 101, 102, 103, 104, 105, 106, 107, 108, 109, 110, 111, 112, 113] (fun i => [(9, .int .i64 ((i : Nat) : Int))]) (fun m i w => m + i = rs.length ∧ St W w (row 42 1 ga gs.length gc (gs.map PR.v) :: row 42 1 ka rs.length kc (rs.map PR.v) :: Segs (gcn rs rs.length gs) :: F)) (fun _ => rfl) ?_ ?_
          · exact ⟨rs.length, 0, ⟨rfl, trivial⟩, rfl, H⟩
          · rintro m i ρ1 w ⟨hmi, H⟩
            refine w_seq ?_
            refine w_seq ?_
            refine w_region ?_
            refine l_pint rfl rfl ?_
            refine l_pslice rfl rfl ?_
            refine l_v rfl (q_lenSlice rfl el_73 rfl) ?_
            refine l_pbool rfl rfl ?_
            refine l_nil ?_
            refine w_cond rfl (fun c5 => ?_) (fun c5 => ?_)
            · try simp only [decide_eq_true_eq, decide_eq_false_iff_not, Bool.not_eq_true', Bool.not_eq_false', beq_iff_eq, beq_eq_false_iff_ne, bne_iff_ne, bne_eq_false_iff_eq, ne_eq, Int.not_lt, Int.not_le] at c5
              have hi : i < rs.length := by omega
              have hp := hok.get hi
              have hig : i < gs.length := by omega
              have hgp := hgo i hig hi
              refine w_skip ?_
              refine w_seq ?_
              refine w_block ?_
              refine w_seq ?_
              refine w_region ?_
              refine l_pint rfl rfl ?_
              refine l_nil ?_
              refine w_block ?_
              refine w_loopG (G := Nat) [2, 10, 11, 71, 72, 73, 74, 75, 76, 77, 78, 79, 80, 81, 82, 83, 84, 85, 86, 87, 88, 89, 90, 91, 92, 93, 94, 95, 96, 97, 98, 99, 100, 101, 102, 103, 104, 105, 106, 107, 108, 109, 110, 111, 112, 113] (fun k => [(10, .int .i64 ((k : Nat) : Int))]) (fun m k w => m + k = gs[i].p.length ∧ St W w (row 42 1 ga gs.length gc (gs.map PR.v) :: row 42 1 ka rs.length kc (rs.map PR.v) :: Segs (gcn rs rs.length gs) :: F)) (fun _ => rfl) ?_ ?_
              · exact ⟨gs[i].p.length, 0, ⟨rfl, trivial⟩, rfl, H⟩
              · rintro m k ρ1 w ⟨hmk, H⟩
                obtain ⟨gb, hga, hgcell⟩ := row_addr (i := 0) H rfl (vget hig)
                obtain ⟨kb, hka, hcell⟩ := row_addr (i := 1) H rfl (vget hi)
                refine w_seq ?_
                refine w_seq ?_
                refine w_region ?_
                refine l_pint rfl rfl ?_
                refine l_pslice rfl rfl ?_
                refine l_pint rfl rfl ?_
                refine l_v rfl (q_indexSliceE i rfl el_73 rfl hga rfl rfl hig) ?_
                refine l_v rfl (q_load1 rfl c1_42 rfl hgcell) ?_
                refine l_v rfl (q_lenSlice rfl el_42 rfl) ?_
                refine l_pbool rfl rfl ?_
                refine l_nil ?_
                refine w_cond rfl (fun c6 => ?_) (fun c6 => ?_)
                · try simp only [decide_eq_true_eq, decide_eq_false_iff_not, Bool.not_eq_true', Bool.not_eq_false', beq_iff_eq, beq_eq_false_iff_ne, bne_iff_ne, bne_eq_false_iff_eq, ne_eq, Int.not_lt, Int.not_le] at c6
                  have hkg : k < gs[i].p.length := by omega
                  have hk : k < rs[i].p.length + 12 := by have e := congrArg List.length hgp; rw [mks_len] at e; omega
                  obtain ⟨xb, xo, hxa⟩ := grd_at (seg_rd H (j := 2) rfl hi hig).1 hk
                  have hrr := (seg_rd H (j := 2) rfl hi hig).2
                  refine w_skip ?_
                  refine w_seq ?_
                  refine w_block ?_
                  refine w_seq ?_
                  refine w_region ?_
                  refine l_pint rfl rfl ?_
                  refine l_v rfl (q_lowN (M := i) rfl (by kernel_rfl) in_5 rfl) ?_
                  refine l_pint rfl rfl ?_
                  refine l_v rfl (q_lowN (M := k) rfl (by kernel_rfl) in_5 rfl) ?_
                  refine l_v rfl (q_buildArr (cs := (mk (i) (k)).map B) rfl ar_24 ze_24 rfl) ?_
                  refine b_alloc rfl ze_24 rfl H (fun b11 w H => ?_)
                  refine b_store (vs := (mk i k).map B) rfl sz_24 rfl rfl rfl rfl (all1 _) H 0 rfl rfl (putL_all rfl) (fun w H => ?_)
                  refine l_nil ?_
                  refine w_seq ?_
                  refine w_drawT [] [3, 6, 7, 14, 21, 24, 25] [(0, 0), (1, 0), (2, 0), (3, 1), (4, 0), (5, 0), (6, 1), (7, 1), (8, 0), (9, 0), (10, 0), (11, 0), (12, 0), (13, 0), (14, 1), (15, 0), (16, 0), (17, 0), (18, 0), (19, 0), (20, 0), (21, 1), (22, 0), (23, 0), (24, 1), (25, 1), (26, 0), (27, 0), (28, 0)] mixed (by kernel_rfl) (fun _ _ _ h => fin_panic h) H (fun H => ?_)
                  refine r_pslice rfl rfl rfl ?_
                  refine r_pint rfl rfl rfl ?_
                  refine r_w rfl rfl (fun w => q_indexSliceE i rfl el_73 rfl hga rfl rfl hig) ?_
                  refine r_v rfl rfl (fun w hS => q_load1 rfl c1_42 rfl (row_cell (i := 1) hS rfl hga (vget hig))) ?_
                  refine r_pint rfl rfl rfl ?_
                  refine r_w rfl rfl (fun w => q_indexSliceE k rfl el_42 rfl hxa rfl rfl hkg) ?_
                  refine r_v rfl rfl (fun w hS => q_loadN (vs := (mk i k).map B) rfl ag_24 rfl rfl (gr_cells (seg_rd hS (j := 3) rfl hi hig).1 hxa hk)) ?_
                  refine r_v rfl rfl (fun w hS => q_loadN (vs := (mk i k).map B) rfl ag_24 rfl rfl (hS.cells 0 rfl)) ?_
                  refine r_w rfl rfl (fun w => q_neqHash rfl rfl rfl (mk_len i k) (mk_len i k)) ?_
                  refine r_pbool rfl rfl rfl ?_
                  refine r_split 94 rfl (fun h94 => absurd h94 (by simp)) (fun h94 => ?_)
                  try simp only [decide_eq_true_eq, decide_eq_false_iff_not, Bool.not_eq_true', Bool.not_eq_false', beq_iff_eq, beq_eq_false_iff_ne, bne_iff_ne, bne_eq_false_iff_eq, ne_eq, Int.not_lt, Int.not_le] at h94
                  refine r_pint rfl rfl rfl ?_
                  refine r_pslice rfl rfl rfl ?_
                  refine r_pint rfl rfl rfl ?_
                  refine r_w rfl rfl (fun w => q_indexSliceE i rfl el_73 rfl hka rfl rfl hi) ?_
                  refine r_v rfl rfl (fun w hS => q_load1 rfl c1_42 rfl (row_cell (i := 2) hS rfl hka (vget hi))) ?_
                  refine r_w rfl rfl (fun w => q_lenSlice rfl el_42 rfl) ?_
                  refine r_pbool rfl rfl rfl ?_
                  refine r_pbool rfl rfl rfl ?_
                  refine r_split 102 rfl (fun h102 => ?_) (fun h102 => ?_)
                  · try simp only [decide_eq_true_eq, decide_eq_false_iff_not, Bool.not_eq_true', Bool.not_eq_false', beq_iff_eq, beq_eq_false_iff_ne, bne_iff_ne, bne_eq_false_iff_eq, ne_eq, Int.not_lt, Int.not_le] at h102
                    have hk2 : k < rs[i].p.length := by omega
                    obtain ⟨rb, ro, hra⟩ := grd_at hrr hk2
                    refine r_pslice rfl rfl rfl ?_
                    refine r_pint rfl rfl rfl ?_
                    refine r_w rfl rfl (fun w => q_indexSliceE i rfl el_73 rfl hka rfl rfl hi) ?_
                    refine r_v rfl rfl (fun w hS => q_load1 rfl c1_42 rfl (row_cell (i := 2) hS rfl hka (vget hi))) ?_
                    refine r_pint rfl rfl rfl ?_
                    refine r_w rfl rfl (fun w => q_indexSliceE k rfl el_42 rfl hra rfl rfl hk2) ?_
                    refine r_v rfl rfl (fun w hS => q_loadN (vs := (mk i k).map B) rfl ag_24 rfl rfl (gr_cells (seg_rd hS (j := 3) rfl hi hig).2 hra hk2)) ?_
                    refine r_v rfl rfl (fun w hS => q_loadN (vs := (mk i k).map B) rfl ag_24 rfl rfl (hS.cells 0 rfl)) ?_
                    refine r_w rfl rfl (fun w => q_neqHash rfl rfl rfl (mk_len i k) (mk_len i k)) ?_
                    refine r_pickT (v := .bool _) rfl rfl rfl rfl ?_
                    refine r_pickF (v := .bool _) rfl rfl rfl rfl ?_
                    refine r_nil ?_
                    refine w_cond rfl (fun c7 => ?_) (fun c7 => ?_)
                    · try simp only [decide_eq_true_eq, decide_eq_false_iff_not, Bool.not_eq_true', Bool.not_eq_false', beq_iff_eq, beq_eq_false_iff_ne, bne_iff_ne, bne_eq_false_iff_eq, ne_eq, Int.not_lt, Int.not_le] at c7
                      exact absurd c7 (by simp)
                    · try simp only [decide_eq_true_eq, decide_eq_false_iff_not, Bool.not_eq_true', Bool.not_eq_false', beq_iff_eq, beq_eq_false_iff_ne, bne_iff_ne, bne_eq_false_iff_eq, ne_eq, Int.not_lt, Int.not_le] at c7
                      refine w_skip ?_
                      refine w_region ?_
                      refine l_pint rfl rfl ?_
                      first | refine l_v rfl (q_add rfl rfl rfl (by simp only [inK]; omega)) ?_ | refine l_pint rfl rfl ?_
                      refine l_pint rfl rfl ?_
                      refine l_nil ?_
                      refine ⟨by repeat' first | exact Agr.mix _ _ _ | exact Agr.refl _ _ | refine Agr.inner rfl ?_ | refine Agr.upd rfl ?_ | refine Agr.updL' rfl ?_, ?_⟩
                      exact ⟨m - 1, k + 1, by omega, ⟨by exact congrArg (Value.int IntKind.i64) (Int.natCast_succ k).symm, trivial⟩, by omega, H.drop1⟩
                  · try simp only [decide_eq_true_eq, decide_eq_false_iff_not, Bool.not_eq_true', Bool.not_eq_false', beq_iff_eq, beq_eq_false_iff_ne, bne_iff_ne, bne_eq_false_iff_eq, ne_eq, Int.not_lt, Int.not_le] at h102
                    refine r_no rfl rfl ?_
                    refine r_no rfl rfl ?_
                    refine r_no rfl rfl ?_
                    refine r_no1 rfl rfl ?_
                    refine r_no rfl rfl ?_
                    refine r_no rfl rfl ?_
                    refine r_no1 rfl rfl ?_
                    refine r_no1 rfl rfl ?_
                    refine r_no rfl rfl ?_
                    refine r_pickF (v := .bool _) rfl rfl rfl rfl ?_
                    refine r_pickF (v := .bool _) rfl rfl rfl rfl ?_
                    refine r_nil ?_
                    refine w_cond_f rfl ?_
                    refine w_skip ?_
                    refine w_region ?_
                    refine l_pint rfl rfl ?_
                    first | refine l_v rfl (q_add rfl rfl rfl (by simp only [inK]; omega)) ?_ | refine l_pint rfl rfl ?_
                    refine l_pint rfl rfl ?_
                    refine l_nil ?_
                    refine ⟨by repeat' first | exact Agr.mix _ _ _ | exact Agr.refl _ _ | refine Agr.inner rfl ?_ | refine Agr.upd rfl ?_ | refine Agr.updL' rfl ?_, ?_⟩
                    exact ⟨m - 1, k + 1, by omega, ⟨by exact congrArg (Value.int IntKind.i64) (Int.natCast_succ k).symm, trivial⟩, by omega, H.drop1⟩
                · try simp only [decide_eq_true_eq, decide_eq_false_iff_not, Bool.not_eq_true', Bool.not_eq_false', beq_iff_eq, beq_eq_false_iff_ne, bne_iff_ne, bne_eq_false_iff_eq, ne_eq, Int.not_lt, Int.not_le] at c6
                  refine w_exit ?_
                  refine w_region ?_
                  refine l_pint rfl rfl ?_
                  first | refine l_v rfl (q_add rfl rfl rfl (by simp only [inK]; omega)) ?_ | refine l_pint rfl rfl ?_
                  refine l_pint rfl rfl ?_
                  refine l_nil ?_
                  refine ⟨by repeat' first | exact Agr.mix _ _ _ | exact Agr.refl _ _ | refine Agr.inner rfl ?_ | refine Agr.upd rfl ?_ | refine Agr.updL' rfl ?_, ?_⟩
                  exact ⟨rs.length - (i + 1), i + 1, by omega, ⟨by exact congrArg (Value.int IntKind.i64) (Int.natCast_succ i).symm, trivial⟩, by omega, H⟩
            · try simp only [decide_eq_true_eq, decide_eq_false_iff_not, Bool.not_eq_true', Bool.not_eq_false', beq_iff_eq, beq_eq_false_iff_ne, bne_iff_ne, bne_eq_false_iff_eq, ne_eq, Int.not_lt, Int.not_le] at c5
              refine w_exit ?_
              refine w_seq ?_
              refine w_region ?_
              refine l_pbool rfl rfl ?_
              refine l_nil ?_
              refine w_ret ?_
              refine fin1 (v := .bool _) rfl ?_
              exact ⟨rfl, H.drop1.drop1.drop1⟩

end Go.Proofs.Ytcmmhpkgjcepdaa
