/- The law DigestSums answers true, under the bound. -/
import Derived.Test.YtcmmbjplekgihaaDig21
namespace Go.Proofs.Ytcmmbjplekgihaa
open Go.EW
attribute [local irreducible] EW.W EW.L EW.fin block8 outB parA pgo hexL shaL digitI
set_option linter.unusedVariables false
set_option linter.unusedSimpArgs false

def GB.vl (g : GB) : Value := .slice g.a g.bs.length g.cap
def GB.part (g : GB) : Part := (g.a, g.cap, g.bs)
theorem rdin_pre {W : World} {F : List Seg} {a : Option Addr} {xs ys : List Value} (h : RdIn W F a (xs ++ ys)) : RdIn W F a xs := fun w S H j v hj =>
  h w S H j v (by rw [List.getElem?_append_left (List.getElem?_eq_some_iff.1 hj).1]; exact hj)
theorem own_at {gs : List GB} {i : Nat} (hi : i < gs.length) : (gs.map GB.own)[i]? = some (row 5 1 gs[i].a (gs[i].bs.length + 1) gs[i].cap ((gs[i].bs ++ [90]).map B)) := by
  rw [List.getElem?_map, List.getElem?_eq_getElem hi]; rfl
/-- what was given may be read, and fits -/
theorem given_part {W w : World} {F : List Seg} {b : Nat} {ga : GA} {gs : List GB} (H : St W w (givenL b ga gs F)) {i : Nat} (hi : i < gs.length) : RdIn W (givenL b ga gs F) gs[i].a (gs[i].bs.map B) ∧ gs[i].bs.length ≤ gs[i].cap := by
  refine ⟨rdin_pre (ys := [B 90]) (by have := RdIn.segs (W := W) (S := givenL b ga gs F) 3 rfl i (own_at hi); rw [List.map_append] at this; exact this), ?_⟩
  have h1 := (Segs.take i (own_at hi) (H.front 3 rfl)).rowInv (i := 0) rfl
  have := h1.2.1
  omega
theorem given_part' {W : World} {F : List Seg} {b : Nat} {ga : GA} {gs : List GB} {i : Nat} (hi : i < gs.length) : RdIn W (givenL b ga gs F) gs[i].a (gs[i].bs.map B) :=
  rdin_pre (ys := [B 90]) (by have := RdIn.segs (W := W) (S := givenL b ga gs F) 3 rfl i (own_at hi); rw [List.map_append] at this; exact this)
theorem join_gs {gs : List GB} {ps : List Part} (h : gs.map GB.bs = ps.map (·.2.2)) : joinL (gs.map GB.part) = joinL ps := by
  unfold joinL
  rw [List.flatMap_def, List.flatMap_def, List.map_map]
  show (gs.map GB.bs).flatten = _
  rw [h]
theorem bs_snoc {gs : List GB} {g : GB} {ps : List Part} {i : Nat} (hi : i < ps.length) (h : gs.map GB.bs = (ps.take i).map (·.2.2)) (hg : g.bs = ps[i].2.2) : (gs ++ [g]).map GB.bs = (ps.take (i + 1)).map (·.2.2) := by
  rw [List.map_append, h, List.take_add_one, List.getElem?_eq_getElem hi, List.map_append]
  simp [hg]
theorem gs_len {gs : List GB} {ps : List Part} {i : Nat} (h : gs.map GB.bs = (ps.take i).map (·.2.2)) (hi : i ≤ ps.length) : gs.length = i := by
  have := congrArg List.length h
  simp only [List.length_map, List.length_take] at this
  omega
theorem part_le {ps : List Part} {i : Nat} (hi : i < ps.length) : ps[i].2.2.length ≤ (joinL ps).length := by
  have := joinL_le ps (i + 1)
  rw [joinL_snoc hi, List.length_append] at this
  omega
theorem gs_le {gs : List GB} {ps : List Part} (h : gs.map GB.bs = ps.map (·.2.2)) {i : Nat} (hi : i < gs.length) : gs[i].bs.length ≤ (joinL ps).length := by
  rw [← join_gs h]
  exact part_le (ps := gs.map GB.part) (i := i) (by simpa using hi) |> fun h => by simpa [GB.part] using h

set_option maxRecDepth 8000 in
set_option maxHeartbeats 1000000 in
theorem DigestSums_ok {W w : World} {F : List Seg} (H : St W w F) {ab ar : Option Addr} {cb cr : Nat} {bs : List UInt8} {ps : List Part} (hrb : RdIn W F ab (bs.map B)) (hcb : bs.length ≤ cb) (hnb : bs.length ≤ 1048576) (hr : RdIn W F ar (ps.map pv)) (hp : ∀ p ∈ ps, RdIn W F p.1 (p.2.2.map B) ∧ p.2.2.length ≤ p.2.1) (hps : ps.length ≤ 1048576) (ht : (joinL ps).length ≤ 1048576) :
    Ok Try.prog 3 [.slice ab bs.length cb, .slice ar ps.length cr].toArray w (fun v w' => v = .bool true ∧ ∃ S, St W w' S) := by
  refine enter (n := 41) (rs := #[.tmp 4]) Try.func3 rfl rfl rfl rfl ?_
  refine w_seq ?_
  refine w_region ?_
  refine l_pbool rfl rfl ?_
  refine l_nil ?_
  refine w_seq ?_
  refine w_region ?_
  refine b_alloc rfl ze_29 rfl H (fun b5 w H => ?_)
  refine l_nil ?_
  refine w_seq ?_
  refine w_region ?_
  refine l_pslice rfl rfl ?_
  refine l_nil ?_
  refine w_seq ?_
  refine w_seq ?_
  refine w_region ?_
  refine l_pint rfl rfl ?_
  refine l_nil ?_
  refine w_block ?_
  refine w_loopG (G := Nat × Option Addr × Nat × GA × List GB) [6, 7, 8, 9, 10, 11, 12, 13, 14, 15, 16, 17, 18, 19, 20, 21] (fun ⟨i, a6, c6, ga, gs⟩ => [(7, .int .i64 ((i : Nat) : Int)), (6, .slice a6 i c6)]) (fun m ⟨i, a6, c6, ga, gs⟩ w => m + i = ps.length ∧ gs.map GB.bs = (ps.take i).map (·.2.2) ∧ St W w (givenL b5 ga gs (row 22 1 a6 i c6 (gs.map GB.vl) :: F))) (fun _ => rfl) ?_ ?_
  · refine ⟨ps.length, (0, none, 0, ⟨none, 0, none, 0⟩, []), ⟨rfl, rfl, trivial⟩, by omega, by rw [List.take_zero]; rfl, ?_⟩
    have H1 := given_new H
    exact ((St.newRow (T := 22) (sz := 1) H1).pick [1, 2, 3, 4, 5, 0] (pre := [_, _, _, _, _, _]) rfl rfl)
  · rintro m ⟨i, a6, c6, ga, gs⟩ ρ1 w ⟨hmi, hgs, H⟩
    have hgl := gs_len hgs (by omega)
    refine w_seq ?_
    refine w_seq ?_
    refine w_region ?_
    refine l_pint rfl rfl ?_
    refine l_pslice rfl rfl ?_
    refine l_v rfl (q_lenSlice rfl el_23 rfl) ?_
    refine l_pbool rfl rfl ?_
    refine l_nil ?_
    refine w_cond rfl (fun c1 => ?_) (fun c1 => ?_)
    · try simp only [decide_eq_true_eq, decide_eq_false_iff_not, Bool.not_eq_true', Bool.not_eq_false', beq_iff_eq, beq_eq_false_iff_ne, bne_iff_ne, bne_eq_false_iff_eq, ne_eq, Int.not_lt, Int.not_le] at c1
      have hi' : i < ps.length := by omega
      obtain ⟨b0, o0, ha0, hc0⟩ := rd_cell (x := pv ps[i]) (hr.use H 6 rfl) (by rw [List.getElem?_map, List.getElem?_eq_getElem hi']; rfl)
      refine w_skip ?_
      refine w_seq ?_
      refine w_block ?_
      refine w_region ?_
      refine l_pslice rfl rfl ?_
      refine l_pslice rfl rfl ?_
      refine l_pint rfl rfl ?_
      refine l_v rfl (q_indexSliceE i rfl el_23 rfl ha0 rfl rfl (by omega)) ?_
      refine l_v rfl (q_load1 rfl c1_22 rfl hc0) ?_
      refine b_call rfl cb_8 rfl (Bytes_ok H ((hp ps[i] (List.getElem_mem hi')).1.up 1 rfl) rfl (by have := part_le hi'; omega) (by omega)) (fun v w hv => ?_)
      obtain ⟨g, ga', hg, rfl, H⟩ := hv
      refine b_buildSlice (cs := [.slice g.a ps[i].2.2.length g.cap]) rfl el_23 ze_22 rfl rfl rfl H (fun b20 w H => ?_)
      refine b_append rfl el_23 ze_22 rfl rfl rfl H 6 rfl (Rd.mk (H.cells0 0 rfl)) rfl (fun u hu => by obtain rfl := List.mem_singleton.1 hu; rfl) ⟨by omega, by simp only [maxLen]; omega⟩ (fun a21 c21 w H => ?_)
      refine l_pslice rfl rfl ?_
      refine l_nil ?_
      refine w_region ?_
      refine l_pint rfl rfl ?_
      first | refine l_v rfl (q_add rfl rfl rfl (by simp only [inK]; omega)) ?_ | refine l_pint rfl rfl ?_
      refine l_pint rfl rfl ?_
      refine l_nil ?_
      refine ⟨by repeat' first | exact Agr.mix _ _ _ | exact Agr.refl _ _ | refine Agr.inner rfl ?_ | refine Agr.upd rfl ?_ | refine Agr.updL' rfl ?_, ?_⟩
      refine ⟨m - 1, (i + 1, a21, c21, ga', gs ++ [g]), by omega, ⟨by exact congrArg (Value.int IntKind.i64) (Int.natCast_succ i).symm, rfl, trivial⟩, by omega, bs_snoc hi' hgs hg, ?_⟩
      have H2 : St W w (givenL b5 ga' (gs ++ [g]) (row 22 1 a21 (i + 1) c21 (gs.map GB.vl ++ [.slice g.a ps[i].2.2.length g.cap]) :: F)) := H.drop1
      rw [List.map_append (f := GB.vl)]
      rw [← hg] at H2
      exact H2
    · try simp only [decide_eq_true_eq, decide_eq_false_iff_not, Bool.not_eq_true', Bool.not_eq_false', beq_iff_eq, beq_eq_false_iff_ne, bne_iff_ne, bne_eq_false_iff_eq, ne_eq, Int.not_lt, Int.not_le] at c1
      have ei : i = ps.length := by omega
      rw [ei, List.take_length] at hgs
      refine w_exit ?_
      refine w_seq ?_
      refine w_region ?_
      refine l_pslice rfl rfl ?_
      refine b_call rfl cb_8 rfl (Bytes_ok H (hrb.up 1 rfl) rfl (by omega) (by omega)) (fun v w hv => ?_)
      obtain ⟨g, ga', hg, rfl, H⟩ := hv
      subst hg
      have glast : RdIn W (givenL b5 ga' (gs ++ [g]) (row 22 1 a6 i c6 (gs.map GB.vl) :: F)) g.a (g.bs.map B) := by
        have := given_part' (W := W) (F := row 22 1 a6 i c6 (gs.map GB.vl) :: F) (b := b5) (ga := ga') (gs := gs ++ [g]) (i := gs.length) (by simp)
        simpa using this
      have glc : g.bs.length ≤ g.cap := by
        have := (given_part H (i := gs.length) (by simp)).2
        simpa using this
      refine b_call rfl cb_9 rfl (SumB_to H (bs := g.bs) (glast) rfl (glc) (by omega)) (fun v w hv => ?_)
      obtain ⟨rfl, H⟩ := hv
      refine l_pslice rfl rfl ?_
      refine b_call rfl cb_10 rfl (rSum_ok H (bs := g.bs) (hrb.up 6 rfl) rfl (by omega)) (fun v w hv => ?_)
      obtain ⟨rfl, H⟩ := hv
      refine l_v rfl (q_eqlHash rfl rfl rfl (shaL_len _) (shaL_len _)) ?_
      refine l_pbool rfl rfl ?_
      refine l_split 28 rfl (fun h28 => ?_) (fun h28 => absurd h28 (by simp))
      try simp only [decide_eq_true_eq, decide_eq_false_iff_not, Bool.not_eq_true', Bool.not_eq_false', beq_iff_eq, beq_eq_false_iff_ne, bne_iff_ne, bne_eq_false_iff_eq, ne_eq, Int.not_lt, Int.not_le] at h28
      refine l_pslice rfl rfl ?_
      refine b_call rfl cb_11 rfl (Join_ok H (ps := gs.map GB.part) (by rw [List.map_map]; exact RdIn.row 5 rfl) (by rw [List.length_map, hgl]) (fun p hp => by
      obtain ⟨g2, hg2, rfl⟩ := List.mem_map.1 hp
      obtain ⟨j, hj, rfl⟩ := List.getElem_of_mem hg2
      have h1 := given_part H (i := j) (by rw [List.length_append]; omega)
      rw [List.getElem_append_left hj] at h1
      have h2 := gs_le hgs hj
      exact ⟨h1.1, h1.2, by show gs[j].bs.length ≤ _; omega⟩) (by rw [join_gs hgs]; omega) (by rw [List.length_map]; omega)) (fun v w hv => ?_)
      obtain ⟨rfl, H⟩ := hv
      rw [join_gs hgs]
      refine l_pslice rfl rfl ?_
      refine b_call rfl cb_12 rfl (rJoin_ok H (ps := ps) (hr.up 6 rfl) rfl (fun p hq => (hp p hq).1.up 6 rfl) (by omega) (by omega)) (fun v w hv => ?_)
      obtain ⟨rfl, H⟩ := hv
      refine l_v rfl (q_eqlHash rfl rfl rfl (shaL_len _) (shaL_len _)) ?_
      refine l_pickT (v := .bool _) rfl rfl rfl ?_
      refine l_pbool rfl rfl ?_
      refine l_split 35 rfl (fun h35 => ?_) (fun h35 => absurd h35 (by simp))
      try simp only [decide_eq_true_eq, decide_eq_false_iff_not, Bool.not_eq_true', Bool.not_eq_false', beq_iff_eq, beq_eq_false_iff_ne, bne_iff_ne, bne_eq_false_iff_eq, ne_eq, Int.not_lt, Int.not_le] at h35
      refine b_call rfl cb_13 rfl (Intact_ok H (by rw [List.length_append]; simp; omega)) (fun v w hv => ?_)
      obtain ⟨rfl, H⟩ := hv
      refine l_pickT (v := .bool _) rfl rfl rfl ?_
      refine l_pbool rfl rfl ?_
      refine l_split 38 rfl (fun h38 => ?_) (fun h38 => absurd h38 (by simp))
      try simp only [decide_eq_true_eq, decide_eq_false_iff_not, Bool.not_eq_true', Bool.not_eq_false', beq_iff_eq, beq_eq_false_iff_ne, bne_iff_ne, bne_eq_false_iff_eq, ne_eq, Int.not_lt, Int.not_le] at h38
      refine b_call rfl cb_14 rfl (alive_ok H) (fun v w hv => ?_)
      obtain ⟨rfl, H⟩ := hv
      refine l_pickT (v := .bool _) rfl rfl rfl ?_
      refine l_pbool rfl rfl ?_
      refine l_nil ?_
      refine w_ret ?_
      refine fin1 (v := .bool _) rfl ?_
      exact ⟨rfl, _, H⟩

end Go.Proofs.Ytcmmbjplekgihaa
