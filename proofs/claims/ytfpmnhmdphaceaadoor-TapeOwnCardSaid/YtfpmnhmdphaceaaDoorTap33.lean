/- Walks through the tape's functions. -/
import Derived.Test.YtfpmnhmdphaceaaDoorTap30
import Derived.Test.YtfpmnhmdphaceaaDoorTap10
namespace Go.Proofs.YtfpmnhmdphaceaaDoor
open Go.EW
attribute [local irreducible] EW.W EW.L EW.fin block8 outB shaL
set_option linter.unusedVariables false
set_option linter.unusedSimpArgs false
attribute [local irreducible] crcN crcB crcL sealL openR sealR addRT chkS usedE
theorem evsV_get {l : List EvM} {i : Nat} (hi : i < l.length) (k : Nat) (hk : k < 13) : (evsV l)[i * 13 + k]? = (l[i].cells)[k]? := by
  induction l generalizing i with
  | nil => exact absurd hi (by simp)
  | cons x l ih =>
    have hx : x.cells.length = 13 := rfl
    unfold evsV at *
    rw [List.flatMap_cons]
    cases i with
    | zero => rw [List.getElem?_append_left (by omega), Nat.zero_mul, Nat.zero_add]; rfl
    | succ i =>
      rw [List.getElem?_append_right (by omega), show (i + 1) * 13 + k - x.cells.length = i * 13 + k by omega, ih (by simpa using hi)]; rfl
theorem evs_at {w : World} {a : Option Addr} {l : List EvM} {i b o : Nat} (ha : a = some ⟨b, o, none⟩) (h : Rd w a (evsV l)) (hi : i < l.length) : Cells w b (o + i * 13) l[i].cells :=
  Cells.mk fun j v hj => by
    have hjl : j < 13 := (List.getElem?_eq_some_iff.1 hj).1
    obtain ⟨b', o', h1, h2⟩ := h (i * 13 + j) v (by rw [evsV_get hi j hjl]; exact hj)
    rw [ha] at h1; cases h1
    rw [Nat.add_assoc]; exact h2
theorem evs_ex {w : World} {a : Option Addr} {l : List EvM} {i : Nat} (h : Rd w a (evsV l)) (hi : i < l.length) : ∃ b o, a = some ⟨b, o, none⟩ := by
  obtain ⟨b', o', h1, _⟩ := h (i * 13 + 0) (I l[i].e.k) (by rw [evsV_get hi 0 (by decide)]; rfl)
  exact ⟨b', o', h1⟩
/-- a tape of the first events that it takes, and what it was told -/
def madeG (s : Stp) (es : List Evt) : Nat → TS × List Evt
  | 0 => (newT s, [])
  | i + 1 =>
    match es[i]? with
    | none => madeG s es i
    | some e => if (addRT (madeG s es i).1 e).1 = 0 then ((addRT (madeG s es i).1 e).2, (madeG s es i).2 ++ [usedE e]) else ((addRT (madeG s es i).1 e).2, (madeG s es i).2)
theorem madeG_ok (s : Stp) (es : List Evt) : ∀ i, TOk2 (madeG s es i).1
  | 0 => TOk2.new s
  | i + 1 => by
    rw [madeG]
    cases es[i]? with
    | none => exact madeG_ok s es i
    | some e =>
      simp only []
      split
      · exact (madeG_ok s es i).add e
      exact (madeG_ok s es i).add e
theorem madeG_len (s : Stp) (es : List Evt) : ∀ i, (madeG s es i).2.length ≤ i
  | 0 => Nat.le_refl _
  | i + 1 => by
    have h := madeG_len s es i
    rw [madeG]
    cases es[i]? with
    | none => simp only []; omega
    | some e =>
      simp only []
      split
      · rw [List.length_append, List.length_singleton]; omega
      simp only []; omega
theorem newT_nil (s : Stp) : (newT s).texts = [] := rfl
def EvsIn (W : World) (F : List Seg) (l : List EvM) : Prop := ∀ x ∈ l, RdIn W F x.a (x.e.bs.map B) ∧ EvOk x.e
set_option maxRecDepth 8000 in
set_option maxHeartbeats 1000000 in
theorem made_no {W w : World} {F : List Seg} (hN : NibOk W) (H : St W w F) (s : Stp) (hso : StpOk s) {a : Option Addr} {c : Nat} (hr : RdIn W F a (intsV s.cls)) {es : List EvM} {ea : Option Addr} {n ec : Nat} (hre : RdIn W F ea (evsV es)) (hl : es.length = n) (hes : EvsIn W F es) (hn : n ≤ 9223372036854775807) (hc : chkS s ≠ 0) :
    Ok Tryd.prog 22 [.agg (s.cells a c).toArray, .slice ea n ec].toArray w (fun r w' => r = .tuple #[.pointer none, .slice none 0 0] ∧ St W w' F) := by
  refine enter (n := 48) (rs := #[.tmp 4, .tmp 5]) Tryd.func22 rfl rfl rfl rfl ?_
  refine w_seq ?_
  refine w_region ?_
  refine b_box (cs := s.cells a c) rfl rfl rfl H (fun b2 w H => ?_)
  refine l_pptr rfl rfl ?_
  refine l_pslice rfl rfl ?_
  refine l_nil ?_
  refine w_seq ?_
  refine w_region ?_
  refine l_v rfl (q_loadN (vs := s.cells a c) rfl ag_56 rfl rfl (H.cells 0 rfl)) ?_
  refine b_call rfl cb_28 rfl (TNew_ok hN H s hso (hr.up 1 rfl)) (fun v w hv => ?_)
  obtain ⟨-, rfl, H⟩ | ⟨h, -⟩ := hv
  rotate_left
  · exact absurd h hc
  refine l_ptup rfl rfl ?_
  refine l_pptr rfl rfl ?_
  refine l_pint rfl rfl ?_
  refine l_pptr rfl rfl ?_
  refine l_pint rfl rfl ?_
  refine l_nil ?_
  refine w_seq ?_
  refine w_seq ?_
  refine w_region ?_
  refine l_pint rfl rfl ?_
  refine l_pbool rfl rfl ?_
  refine l_pbool rfl rfl ?_
  refine l_split 17 rfl (fun h17 => ?_) (fun h17 => absurd h17 (by simp; omega))
  try simp only [sH] at h17
  refine l_no rfl ?_
  refine l_no rfl ?_
  refine l_pickT (v := .bool _) rfl rfl rfl ?_
  refine l_nil ?_
  refine w_cond_t rfl ?_
  refine w_seq ?_
  refine w_region ?_
  refine l_pptr rfl rfl ?_
  refine l_pslice rfl rfl ?_
  refine l_nil ?_
  refine w_ret ?_
  refine fin2 rfl rfl ?_
  exact ⟨rfl, H.drop1⟩
set_option maxRecDepth 8000 in
set_option maxHeartbeats 1000000 in
theorem made_ok {W w : World} {F : List Seg} (hN : NibOk W) (H : St W w F) (s : Stp) (hso : StpOk s) {a : Option Addr} {c : Nat} (hr : RdIn W F a (intsV s.cls)) {es : List EvM} {ea : Option Addr} {n ec : Nat} (hre : RdIn W F ea (evsV es)) (hl : es.length = n) (hes : EvsIn W F es) (hn : n ≤ 9223372036854775807) (hc : chkS s = 0) :
    Ok Tryd.prog 22 [.agg (s.cells a c).toArray, .slice ea n ec].toArray w (fun r w' => ∃ tb, ∃ p : TP, ∃ la lc, ∃ ls : List EvM, p.ts = (madeG s (es.map EvM.e) (min es.length 300)).1.texts ∧ ls.map EvM.e = (madeG s (es.map EvM.e) (min es.length 300)).2 ∧ r = .tuple #[.pointer (some ⟨tb, 0, none⟩), .slice la ls.length lc] ∧ St W w' (row 30 13 la ls.length lc (evsV ls) :: Segs (ls.map EvM.seg) :: tapeL tb p (madeG s (es.map EvM.e) (min es.length 300)).1 F)) := by
  subst hl
  refine enter (n := 48) (rs := #[.tmp 4, .tmp 5]) Tryd.func22 rfl rfl rfl rfl ?_
  refine w_seq ?_
  refine w_region ?_
  refine b_box (cs := s.cells a c) rfl rfl rfl H (fun b2 w H => ?_)
  refine l_pptr rfl rfl ?_
  refine l_pslice rfl rfl ?_
  refine l_nil ?_
  refine w_seq ?_
  refine w_region ?_
  refine l_v rfl (q_loadN (vs := s.cells a c) rfl ag_56 rfl rfl (H.cells 0 rfl)) ?_
  refine b_call rfl cb_28 rfl (TNew_ok hN H s hso (hr.up 1 rfl)) (fun v w hv => ?_)
  obtain ⟨h, -⟩ | ⟨-, tb, p0, hp0, rfl, H⟩ := hv
  · exact absurd hc h
  refine l_ptup rfl rfl ?_
  refine l_pptr rfl rfl ?_
  refine l_pint rfl rfl ?_
  refine l_pptr rfl rfl ?_
  refine l_pint rfl rfl ?_
  refine l_nil ?_
  refine w_seq ?_
  refine w_seq ?_
  refine w_region ?_
  refine l_pint rfl rfl ?_
  refine l_pbool rfl rfl ?_
  refine l_pbool rfl rfl ?_
  refine l_split 17 rfl (fun h17 => absurd h17 (by simp)) (fun h17 => ?_)
  try simp only [sH] at h17
  refine l_pptr rfl rfl ?_
  refine l_v rfl (q_eqlNilF rfl pt_61 rfl rfl) ?_
  refine l_pickF (v := .bool _) rfl rfl rfl ?_
  refine l_nil ?_
  refine w_cond_f rfl ?_
  refine w_skip ?_
  refine w_seq ?_
  refine w_region ?_
  refine l_pslice rfl rfl ?_
  refine l_nil ?_
  refine w_seq ?_
  refine w_seq ?_
  refine w_region ?_
  refine l_pint rfl rfl ?_
  refine l_nil ?_
  refine w_block ?_
  refine w_loopG (G := Nat × TP × Option Addr × Nat × List EvM) [8, 9, 21, 22, 23, 24, 25, 26, 27, 28, 29, 30, 31, 32, 33, 34, 35, 36, 37, 38, 39, 40, 41, 42, 43, 44, 45] (fun ⟨i, p, la, lc, ls⟩ => [(8, .slice la ls.length lc), (9, .int .i64 ((i : Nat) : Int))]) (fun m ⟨i, p, la, lc, ls⟩ w => m + i = es.length ∧ i ≤ 300 ∧ p.ts = (madeG s (es.map EvM.e) i).1.texts ∧ ls.map EvM.e = (madeG s (es.map EvM.e) i).2 ∧ St W w (row 30 13 la ls.length lc (evsV ls) :: Segs (ls.map EvM.seg) :: tapeL tb p (madeG s (es.map EvM.e) i).1 (blk b2 (s.cells a c) 56 :: F))) (fun _ => rfl) ?_ ?_
  · exact ⟨es.length, (0, p0, none, 0, []), ⟨rfl, rfl, trivial⟩, rfl, Nat.zero_le _, by unfold TP.ts; rw [hp0]; exact (newT_nil s).symm, rfl, St.newRow (T := 30) (sz := 13) (St.nilseg.2 H)⟩
  rintro m ⟨i, p, la, lc, ls⟩ ρ1 w ⟨hmi, hi3, hpt, hls, H⟩
  refine w_seq ?_
  refine w_seq ?_
  refine w_region ?_
  refine l_pint rfl rfl ?_
  refine l_pslice rfl rfl ?_
  refine l_v rfl (q_lenSlice rfl el_57 rfl) ?_
  refine l_pbool rfl rfl ?_
  refine l_pbool rfl rfl ?_
  refine l_split 25 rfl (fun h25 => ?_) (fun h25 => ?_)
  · try simp only [sH] at h25
    refine l_pint rfl rfl ?_
    refine l_pbool rfl rfl ?_
    refine l_pickT (v := .bool _) rfl rfl rfl ?_
    refine l_nil ?_
    refine w_cond rfl (fun c1 => ?_) (fun c1 => ?_)
    · try simp only [sH] at c1
      have hi : i < es.length := by omega
      have hi3' : i < 300 := by omega
      obtain ⟨eb, eo, hea⟩ := evs_ex (hre.use H 8 rfl) hi
      have hei := hes _ (List.getElem_mem hi)
      have HT := St.pick [2, 3, 4, 5, 6, 0, 1, 7] (pre := [_, _, _, _, _, _, _, _]) rfl H rfl
      refine w_skip ?_
      refine w_seq ?_
      refine w_block ?_
      refine w_seq ?_
      refine w_region ?_
      refine l_pptr rfl rfl ?_
      refine l_pslice rfl rfl ?_
      refine l_pint rfl rfl ?_
      refine l_v rfl (q_indexSliceE i rfl el_57 rfl hea rfl rfl hi) ?_
      refine l_v rfl (q_loadN (vs := es[i].cells) rfl ag_30 rfl rfl (evs_at hea (hre.use H 8 rfl) hi)) ?_
      refine b_call rfl cb_29 rfl (TAdd_ok hN HT (madeG_ok _ _ i).ok hpt es[i].e hei.2 (hei.1.up 3 rfl)) (fun v w hv => ?_)
      obtain ⟨q, hqt, rfl, H⟩ := hv
      have H := St.pick [5, 6, 0, 1, 2, 3, 4, 7] (pre := [_, _, _, _, _, _, _, _]) rfl H rfl
      have hg : (es.map EvM.e)[i]? = some es[i].e := by rw [List.getElem?_map, List.getElem?_eq_getElem hi]; rfl
      refine l_pbool rfl rfl ?_
      refine l_nil ?_
      refine w_cond rfl (fun c2 => ?_) (fun c2 => ?_)
      · try simp only [sH] at c2
        refine w_region ?_
        refine l_pslice rfl rfl ?_
        refine l_pslice rfl rfl ?_
        refine l_pint rfl rfl ?_
        refine l_v rfl (q_indexSliceE i rfl el_57 rfl hea rfl rfl hi) ?_
        refine l_v rfl (q_loadN (vs := es[i].cells) rfl ag_30 rfl rfl (evs_at hea (hre.use H 8 rfl) hi)) ?_
        refine b_call rfl cb_37 rfl (Used_ok H es[i].e (hei.1.up 8 rfl) (by have := hei.2.bs; omega)) (fun v w hv => ?_)
        obtain ⟨ua, uc, rfl, H⟩ := hv
        refine b_buildSlice (cs := (usedE es[i].e).cells ua uc) rfl el_57 ze_30 rfl rfl (fill_evt _ _ _) H (fun b44 w H => ?_)
        have hll := madeG_len s (es.map EvM.e) i
        rw [← hls, List.length_map] at hll
        refine b_append rfl el_57 ze_30 rfl rfl rfl H 2 rfl (ys := (usedE es[i].e).cells ua uc) (Rd.mk (H.cells0 0 rfl)) rfl (fun u hu => oneEv [⟨usedE es[i].e, ua, uc⟩] u (by rw [evsV_one]; exact hu)) ⟨by omega, by simp only [maxLen]; omega⟩ (fun a45 c45 w H => ?_)
        have H := H.drop1
        refine l_pslice rfl rfl ?_
        refine l_nil ?_
        refine w_region ?_
        refine l_pint rfl rfl ?_
        first | refine l_v rfl (q_add rfl rfl rfl (by simp only [inK]; omega)) ?_ | refine l_pint rfl rfl ?_
        refine l_pint rfl rfl ?_
        refine l_nil ?_
        refine ⟨by repeat' first | exact aM | exact aR | refine aI rfl ?_ | refine aU rfl ?_ | refine aL rfl ?_, ?_⟩
        have e1 : madeG s (es.map EvM.e) (i + 1) = ((addRT (madeG s (es.map EvM.e) i).1 es[i].e).2, (madeG s (es.map EvM.e) i).2 ++ [usedE es[i].e]) := by
          rw [madeG, hg]; exact if_pos (by omega)
        refine ⟨m - 1, (i + 1, q, a45, c45, ls ++ [⟨usedE es[i].e, ua, uc⟩]), by omega, ⟨by rw [List.length_append]; rfl, by exact congrArg (Value.int IntKind.i64) (Int.natCast_succ i).symm, trivial⟩, by omega, by omega, by rw [e1]; exact hqt, by rw [e1, List.map_append, hls]; rfl, ?_⟩
        rw [e1, evsV_app, evsV_one, List.map_append, List.length_append]
        exact St.pick [1, 0, 2, 3, 4, 5, 6, 7] (pre := [_, _, _, _, _, _, _, _]) rfl (St.snocseg.1 (St.pick [2, 0, 1, 3, 4, 5, 6, 7, 8] (pre := [_, _, _, _, _, _, _, _, _]) rfl H.toF rfl)) rfl
      try simp only [sH] at c2
      refine w_skip ?_
      refine w_region ?_
      refine l_pint rfl rfl ?_
      first | refine l_v rfl (q_add rfl rfl rfl (by simp only [inK]; omega)) ?_ | refine l_pint rfl rfl ?_
      refine l_pint rfl rfl ?_
      refine l_nil ?_
      refine ⟨by repeat' first | exact aM | exact aR | refine aI rfl ?_ | refine aU rfl ?_ | refine aL rfl ?_, ?_⟩
      have e1 : madeG s (es.map EvM.e) (i + 1) = ((addRT (madeG s (es.map EvM.e) i).1 es[i].e).2, (madeG s (es.map EvM.e) i).2) := by
        rw [madeG, hg]; exact if_neg (by omega)
      exact ⟨m - 1, (i + 1, q, la, lc, ls), by omega, ⟨rfl, by exact congrArg (Value.int IntKind.i64) (Int.natCast_succ i).symm, trivial⟩, by omega, by omega, by rw [e1]; exact hqt, by rw [e1]; exact hls, by rw [e1]; exact H⟩
    try simp only [sH] at c1
    refine w_exit ?_
    refine w_seq ?_
    refine w_region ?_
    refine l_pptr rfl rfl ?_
    refine l_pslice rfl rfl ?_
    refine l_pptr rfl rfl ?_
    refine l_pslice rfl rfl ?_
    refine l_nil ?_
    refine w_ret ?_
    refine fin2 rfl rfl ?_
    have e : min es.length 300 = i := by omega
    rw [e]
    exact ⟨tb, p, la, lc, ls, hpt, hls, rfl, St.pick [0, 1, 2, 3, 4, 5, 6] (pre := [_, _, _, _, _, _, _, _]) rfl H rfl⟩
  try simp only [sH] at h25
  refine l_no rfl ?_
  refine l_no rfl ?_
  refine l_pickF (v := .bool _) rfl rfl rfl ?_
  refine l_nil ?_
  refine w_cond_f rfl ?_
  refine w_exit ?_
  refine w_seq ?_
  refine w_region ?_
  refine l_pptr rfl rfl ?_
  refine l_pslice rfl rfl ?_
  refine l_pptr rfl rfl ?_
  refine l_pslice rfl rfl ?_
  refine l_nil ?_
  refine w_ret ?_
  refine fin2 rfl rfl ?_
  have e : min es.length 300 = i := by omega
  rw [e]
  exact ⟨tb, p, la, lc, ls, hpt, hls, rfl, St.pick [0, 1, 2, 3, 4, 5, 6] (pre := [_, _, _, _, _, _, _, _]) rfl H rfl⟩
end Go.Proofs.YtfpmnhmdphaceaaDoor
