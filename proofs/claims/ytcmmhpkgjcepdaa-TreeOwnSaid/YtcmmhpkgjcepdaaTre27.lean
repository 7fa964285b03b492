/- The laws' helper climbs: what it comes to, and what it meets, with the plain law behind it. -/
import Derived.Test.YtcmmhpkgjcepdaaTre22
namespace Go.Proofs.Ytcmmhpkgjcepdaa
open Go.EW
attribute [local irreducible] EW.W EW.L EW.fin block8 outB shaL
set_option linter.unusedVariables false
set_option linter.unusedSimpArgs false
attribute [local irreducible] swp headH leafH nodeH inclN sidesN bothN lenN splitN upN incdR extR pathV

/-- going up to the head from what is not so meets two unlike pairs with one digest -/
def ClimbLaw (es : List Ent) (p : Nat) (e : Ent) (path : List (List UInt8)) (h : List UInt8) (mt : Bool) : Prop := h = headH es → (es[p - 1]? ≠ some e ∨ path ≠ inclN es p) → mt = true
theorem climb_one {es : List Ent} {p : Nat} {e : Ent} {path : List (List UInt8)} (h0 : 0 < es.length) (h1 : es.length = 1) : ClimbLaw es p e path (leafH e) (decide (leafH e = leafH es[0])) := by
  intro h _
  rw [headH_single h0 h1] at h
  exact decide_eq_true h
theorem climb_same {es : List Ent} {p : Nat} {e : Ent} {path : List (List UInt8)} {h : List UInt8} {mt : Bool} (h0 : 0 < es.length) (h1 : es.length = 1) (hp : p = 1) (he : e = es[0]) (hpl : path.length = 0) : ClimbLaw es p e path h mt := by
  intro _ hn
  rcases hn with hn | hn
  · refine absurd ?_ hn
    subst hp
    rw [he]
    exact List.getElem?_eq_getElem h0
  · refine absurd ?_ hn
    rw [inclN_one h1]
    exact List.eq_nil_of_length_eq_zero hpl
theorem climb_true {es : List Ent} {p : Nat} {e : Ent} {path : List (List UInt8)} {h : List UInt8} : ClimbLaw es p e path h true := fun _ _ => rfl
theorem one_true {P Q : Pair} (h : P ≠ Q) (hn : nodeH P.1 P.2 = nodeH Q.1 Q.2) : oneB P Q = true := by
  unfold oneB
  rw [decide_eq_false h, decide_eq_true hn]; rfl
theorem climb_le {es : List Ent} {p : Nat} {e : Ent} {path : List (List UInt8)} {h' : List UInt8} (h2 : 2 ≤ es.length) (h1 : 1 ≤ p) (hk : p ≤ splitN es.length) (hi : path.length - 1 < path.length) (hlaw : ClimbLaw (es.take (splitN es.length)) p e (path.take (path.length - 1)) h' false) :
    ClimbLaw es p e path (nodeH h' path[path.length - 1]) (oneB (h', path[path.length - 1]) (halvesP es)) := by
  intro hh hne
  by_cases hP : (h', path[path.length - 1]) = halvesP es
  · exfalso
    have e1 : h' = headH (es.take (splitN es.length)) := congrArg Prod.fst hP
    have e2 : path[path.length - 1] = headH (es.drop (splitN es.length)) := congrArg Prod.snd hP
    have := hlaw e1 (by
      rcases hne with hne | hne
      · refine .inl ?_
        rwa [List.getElem?_take_of_lt (by omega)]
      · refine .inr fun hc => hne ?_
        rw [inclN_two h2, if_pos hk, ← hc, ← e2]
        exact last_of hi)
    cases this
  · exact one_true hP (by rw [headH_two h2] at hh; exact hh)
theorem climb_gt {es : List Ent} {p : Nat} {e : Ent} {path : List (List UInt8)} {h' : List UInt8} (h2 : 2 ≤ es.length) (hk : splitN es.length < p) (hi : path.length - 1 < path.length) (hlaw : ClimbLaw (es.drop (splitN es.length)) (p - splitN es.length) e (path.take (path.length - 1)) h' false) :
    ClimbLaw es p e path (nodeH path[path.length - 1] h') (oneB (path[path.length - 1], h') (halvesP es)) := by
  intro hh hne
  by_cases hP : (path[path.length - 1], h') = halvesP es
  · exfalso
    have e1 : path[path.length - 1] = headH (es.take (splitN es.length)) := congrArg Prod.fst hP
    have e2 : h' = headH (es.drop (splitN es.length)) := congrArg Prod.snd hP
    have := hlaw e2 (by
      rcases hne with hne | hne
      · refine .inl ?_
        rw [List.getElem?_drop, show splitN es.length + (p - splitN es.length - 1) = p - 1 by omega]
        exact hne
      · refine .inr fun hc => hne ?_
        rw [inclN_two h2, if_neg (by omega), ← hc, ← e1]
        exact last_of hi)
    cases this
  · exact one_true hP (by rw [headH_two h2] at hh; exact hh)

set_option maxRecDepth 8000 in
set_option maxHeartbeats 2000000 in
theorem climbs_ok (k : Nat) : ∀ {W w : World} {F : List Seg} {a pa : Option Addr} {n c p pn pc : Nat} {e : Ent} {es : List Ent} {path : List (List UInt8)}, St W w F → RdIn W F a (entsV es) → es.length = n → n ≤ c → EntsOk es → e.va.size ≤ 140737488351232 → PathOk path → RdIn W F pa (pathV path) → path.length = (sidesN n p).length → pn = path.length → pn ≤ pc → n = k → 1 ≤ p → p ≤ n ∧ n ≤ 4398046511000 →
    Ok Try.prog 33 [.slice a n c, .int .i64 (p : Int), .agg e.cells.toArray, .slice pa pn pc].toArray w (fun r w' => ∃ mt : Bool, r = .tuple #[.agg ((upN (sidesN n p) path (leafH e) path.length).map B).toArray, .bool mt] ∧ ClimbLaw es p e path (upN (sidesN n p) path (leafH e) path.length) mt ∧ St W w' F) := by
  induction k using Nat.strongRecOn with
  | _ k ih =>
    intro W w F a pa n c p pn pc e es path H hr hl hnc hok hva hpo hpr hpl hpn hpc hnk hp1 hpb
    subst hnk
    subst hpn
    have hshort := sidesN_short (n := n) (p := p) (by omega)
    refine enter (n := 108) (rs := #[.cell 8 24, .tmp 9]) Try.func33 rfl rfl rfl rfl ?_
    refine w_seq ?_
    refine w_region ?_
    refine b_box rfl rfl rfl H (fun b6 w H => ?_)
    refine b_alloc rfl ze_24 rfl H (fun b8 w H => ?_)
    refine l_pbool rfl rfl ?_
    refine l_nil ?_
    refine w_seq ?_
    refine w_seq ?_
    refine w_region ?_
    refine l_pslice rfl rfl ?_
    refine l_v rfl (q_lenSlice rfl el_22 rfl) ?_
    refine l_pbool rfl rfl ?_
    refine l_nil ?_
    refine w_cond rfl (fun c1 => ?_) (fun c1 => ?_)
    · try simp only [decide_eq_true_eq, decide_eq_false_iff_not, Bool.not_eq_true', Bool.not_eq_false', beq_iff_eq, beq_eq_false_iff_ne, bne_iff_ne, bne_eq_false_iff_eq, ne_eq, Int.not_lt, Int.not_le] at c1
      have h0 : 0 < es.length := by omega
      obtain ⟨be, oe, hae, _⟩ := ent_cells (hr.use H 2 rfl) h0
      have hn1 : n = 1 := by omega
      subst hn1
      have hue := up_one (h := leafH e) hpl
      have hp1 : p = 1 := by omega
      have hpl0 : path.length = 0 := by rw [hpl, long_one]
      refine w_seq ?_
      refine w_drawT [13, 16] [0, 2, 5, 8, 12] [(0, 1), (2, 1), (3, 0), (4, 0), (5, 1), (6, 0), (1, 2), (7, 0), (8, 1), (10, 0), (11, 0), (12, 1), (9, 2), (13, 2), (14, 0), (15, 0), (16, 2), (17, 0)] mixed (by kernel_rfl) (fun _ _ _ h => fin_panic h) H (fun H => ?_)
      refine r_v rfl rfl (fun w hS => q_loadN (vs := e.cells) rfl ag_28 rfl rfl (hS.cells 1 rfl)) ?_
      refine r_v rfl rfl (fun w hS => q_loadN (vs := e.cells) rfl ag_28 rfl rfl (hS.cells 1 rfl)) ?_
      refine r_pslice rfl rfl rfl ?_
      refine r_w rfl rfl (fun w => q_indexSliceE 0 rfl el_22 rfl hae rfl rfl (by omega)) ?_
      refine r_v rfl rfl (fun w hS => q_loadN (vs := es[0].cells) rfl ag_28 rfl rfl (ent_at2 hae (hr.use hS 2 rfl) h0)) ?_
      refine r_w rfl rfl (fun w => q_neqEnt rfl rfl rfl) ?_
      refine r_do rfl ?_
      refine b_call rfl cb_19 rfl (Leaf_ok H e hva) (fun v w hv => ?_)
      obtain ⟨rfl, H⟩ := hv
      refine l_nil ⟨fun _ _ => (by first | exact H | exact H.drop1 | exact H.drop1.drop1 | exact H.drop1.drop1.drop1), ?_⟩
      refine r_pbool rfl rfl rfl ?_
      refine r_split 28 rfl (fun h28 => ?_) (fun h28 => ?_)
      · try simp only [decide_eq_true_eq, decide_eq_false_iff_not, Bool.not_eq_true', Bool.not_eq_false', beq_iff_eq, beq_eq_false_iff_ne, bne_iff_ne, bne_eq_false_iff_eq, ne_eq, Int.not_lt, Int.not_le] at h28
        refine r_v rfl rfl (fun w hS => q_loadN (vs := e.cells) rfl ag_28 rfl rfl (hS.cells 1 rfl)) ?_
        refine r_pslice rfl rfl rfl ?_
        refine r_w rfl rfl (fun w => q_indexSliceE 0 rfl el_22 rfl hae rfl rfl (by omega)) ?_
        refine r_v rfl rfl (fun w hS => q_loadN (vs := es[0].cells) rfl ag_28 rfl rfl (ent_at2 hae (hr.use hS 2 rfl) h0)) ?_
        refine r_do rfl ?_
        refine b_call rfl cb_19 rfl (Leaf_ok H e hva) (fun v w hv => ?_)
        obtain ⟨rfl, H⟩ := hv
        refine l_nil ⟨fun _ _ => (by first | exact H | exact H.drop1 | exact H.drop1.drop1 | exact H.drop1.drop1.drop1), ?_⟩
        refine r_do rfl ?_
        refine b_call rfl cb_19 rfl (Leaf_ok H es[0] (hok _ (List.getElem_mem h0))) (fun v w hv => ?_)
        obtain ⟨rfl, H⟩ := hv
        refine l_nil ⟨(fun h => nomatch h), ?_⟩
        refine r_w rfl rfl (fun w => q_eqlHash rfl rfl rfl (leafH_len _) (leafH_len _)) ?_
        refine r_pickT (v := .bool _) rfl rfl rfl rfl ?_
        refine r_do rfl ?_
        refine b_store (vs := (leafH e).map B) rfl sz_24 rfl rfl rfl (by simp [leafH_len]) (all1 _) H 0 rfl (by simp [z32, leafH_len]) (putL_all (by simp [z32, leafH_len])) (fun w H => ?_)
        refine l_nil ⟨(fun h => nomatch h), ?_⟩
        refine r_pbool rfl rfl rfl ?_
        refine r_nil ?_
        refine w_ret ?_
        refine finc2 (vs := (leafH e).map B) rfl ag_24 (by simp [leafH_len]) (H.cells 0 rfl) rfl ?_
        exact ⟨decide (leafH e = leafH es[0]), by first | (rw [hue]; done) | (rw [hue]; rfl), by rw [hue]; exact climb_one h0 (by omega), (H.erase 0).erase 0⟩
      · try simp only [decide_eq_true_eq, decide_eq_false_iff_not, Bool.not_eq_true', Bool.not_eq_false', beq_iff_eq, beq_eq_false_iff_ne, bne_iff_ne, bne_eq_false_iff_eq, ne_eq, Int.not_lt, Int.not_le] at h28
        refine r_no1 rfl rfl ?_
        refine r_no rfl rfl ?_
        refine r_no rfl rfl ?_
        refine r_no1 rfl rfl ?_
        refine r_do rfl (l_no rfl (l_nil ⟨fun _ _ => (by first | exact H | exact H.drop1 | exact H.drop1.drop1), ?_⟩))
        refine r_do rfl (l_no rfl (l_nil ⟨(fun h => nomatch h), ?_⟩))
        refine r_no rfl rfl ?_
        refine r_pickF (v := .bool _) rfl rfl rfl rfl ?_
        refine r_do rfl ?_
        refine b_store (vs := (leafH e).map B) rfl sz_24 rfl rfl rfl (by simp [leafH_len]) (all1 _) H 0 rfl (by simp [z32, leafH_len]) (putL_all (by simp [z32, leafH_len])) (fun w H => ?_)
        refine l_nil ⟨(fun h => nomatch h), ?_⟩
        refine r_pbool rfl rfl rfl ?_
        refine r_nil ?_
        refine w_ret ?_
        refine finc2 (vs := (leafH e).map B) rfl ag_24 (by simp [leafH_len]) (H.cells 0 rfl) rfl ?_
        exact ⟨false, by first | (rw [hue]; done) | (rw [hue]; rfl), climb_same h0 (by omega) hp1 (entEq_iff.1 (by simpa using h28)) hpl0, (H.erase 0).erase 0⟩
    · try simp only [decide_eq_true_eq, decide_eq_false_iff_not, Bool.not_eq_true', Bool.not_eq_false', beq_iff_eq, beq_eq_false_iff_ne, bne_iff_ne, bne_eq_false_iff_eq, ne_eq, Int.not_lt, Int.not_le] at c1
      have h2 : 2 ≤ n := by omega
      have hsp := splitN_spec h2
      have hpos : 1 ≤ path.length := by
        rw [hpl, sidesN_two h2]; split <;> simp
      have hlp : path.length - 1 < path.length := by omega
      obtain ⟨bp, op, hap, hcp⟩ := path_cells hpo (hpr.use H 2 rfl) hlp
      have hll := hpo _ (List.getElem_mem hlp)
      have hpt := hpo.take (path.length - 1)
      refine w_skip ?_
      refine w_seq ?_
      refine w_region ?_
      refine l_pslice rfl rfl ?_
      refine l_v rfl (q_lenSlice rfl el_22 rfl) ?_
      refine b_call rfl cb_73 rfl (split2_ok (n := n) ⟨by omega, by omega⟩) (fun v w hv => ?_)
      obtain ⟨rfl, rfl⟩ := hv
      refine l_pint rfl rfl ?_
      refine l_nil ?_
      refine w_seq ?_
      refine w_region ?_
      refine l_pslice rfl rfl ?_
      refine l_v rfl (q_lenSlice rfl el_42 rfl) ?_
      first | refine l_v rfl (q_subN (a := path.length) (b := 1) rfl rfl rfl ⟨by omega, by omega⟩) ?_ | refine l_pint rfl rfl ?_
      refine l_pint rfl rfl ?_
      refine l_nil ?_
      refine w_seq ?_
      refine w_seq ?_
      refine w_region ?_
      refine l_pint rfl rfl ?_
      refine l_pint rfl rfl ?_
      refine l_pbool rfl rfl ?_
      refine l_nil ?_
      refine w_cond rfl (fun c2 => ?_) (fun c2 => ?_)
      · try simp only [decide_eq_true_eq, decide_eq_false_iff_not, Bool.not_eq_true', Bool.not_eq_false', beq_iff_eq, beq_eq_false_iff_ne, bne_iff_ne, bne_eq_false_iff_eq, ne_eq, Int.not_lt, Int.not_le] at c2
        have hle := long_le (p := p) h2 (by omega)
        have hue := up_le (h := leafH e) h2 (by omega) hpl hlp
        have hptl : (path.take (path.length - 1)).length = (sidesN (splitN n) p).length := by rw [List.length_take]; omega
        obtain ⟨P, hP⟩ : ∃ P : Pair, P = ((upN (sidesN (splitN n) p) (path.take (path.length - 1)) (leafH e) (path.take (path.length - 1)).length), path[path.length - 1]) := ⟨_, rfl⟩
        have hPo : PairOk P := by rw [hP]; exact ⟨upN_len (leafH_len e) _, hll⟩
        refine w_cutG (G := Nat × Bool) [12, 13, 46, 47, 48, 49, 50, 51, 52, 53, 54, 55, 56, 57] (fun ⟨p1, mt⟩ => [(12, .pointer (some ⟨p1, 0, none⟩)), (13, .bool mt)]) (fun ⟨p1, mt⟩ w => ClimbLaw (es.take (splitN n)) p e (path.take (path.length - 1)) (upN (sidesN (splitN n) p) (path.take (path.length - 1)) (leafH e) (path.take (path.length - 1)).length) mt ∧ St W w (blk p1 ((upN (sidesN (splitN n) p) (path.take (path.length - 1)) (leafH e) (path.take (path.length - 1)).length).map B) 24 :: blk b8 z32 24 :: blk b6 e.cells 28 :: F)) (fun _ => rfl) ?_ ?_
        · refine w_drawP [13] [4] (.alt [(0, 0), (1, 0), (2, 0), (3, 0), (4, 1), (5, 0), (6, 0), (7, 0)] (.leaf [(8, 2), (9, 0), (10, 0), (11, 0), (12, 2), (13, 2), (14, 0)]) (.leaf [(12, 2), (8, 2), (9, 0), (10, 0), (11, 0), (13, 2), (14, 0)])) mixed (by kernel_rfl) (fun _ _ _ h => fin_panic h) H (fun H => ?_)
          refine rp_alt ?_
          refine r_pslice rfl rfl rfl ?_
          refine r_pint rfl rfl rfl ?_
          refine r_w rfl rfl (fun w => q_slice (h := splitN n) rfl el_22 rfl Bnd.none (Bnd.nat (by omega)) Bnd.none (by simp)) ?_
          refine r_pint rfl rfl rfl ?_
          refine r_v rfl rfl (fun w hS => q_loadN (vs := e.cells) rfl ag_28 rfl rfl (hS.cells 1 rfl)) ?_
          refine r_pslice rfl rfl rfl ?_
          refine r_pint rfl rfl rfl ?_
          refine r_w rfl rfl (fun w => q_slice (h := path.length - 1) rfl el_42 rfl Bnd.none (Bnd.nat (by omega)) Bnd.none (by simp)) ?_
          refine rp_two ?_ ?_
          · refine rp_leaf ?_
            refine r_do rfl ?_
            refine b_call rfl cb_33 rfl (ih (splitN n) (by omega) (n := splitN n) (p := p) (e := e) (es := es.take (splitN n)) (path := (path.take (path.length - 1))) H (by first | exact rdin_take5 (hr.up 2 rfl) (splitN n) c | exact rdin_take5 (hr.up 3 rfl) (splitN n) c) (by simp only [List.length_take, List.length_drop]; omega) (by omega) (hok.take _) hva hpt (by first | exact rdin_take32 hpo (hpr.up 2 rfl) (path.length - 1) pc | exact rdin_take32 hpo (hpr.up 3 rfl) (path.length - 1) pc) hptl (by rw [List.length_take]; omega) (by omega) rfl (by omega) (by omega)) (fun v w hv => ?_)
            obtain ⟨mt', rfl, hlaw, H⟩ := hv
            refine l_nil ⟨fun _ _ => (by first | exact H | exact H.drop1 | exact H.drop1.drop1 | exact H.drop1.drop1.drop1), ?_⟩
            refine r_ptup rfl rfl rfl ?_
            refine r_pagg rfl rfl rfl ?_
            refine r_pbool rfl rfl rfl ?_
            refine r_do rfl ?_
            refine b_alloc rfl ze_24 rfl H (fun b12 w H => ?_)
            refine l_nil ⟨fun _ _ => (by first | exact H | exact H.drop1 | exact H.drop1.drop1 | exact H.drop1.drop1.drop1), ?_⟩
            refine r_do rfl ?_
            refine b_store (vs := ((upN (sidesN (splitN n) p) (path.take (path.length - 1)) (leafH e) (path.take (path.length - 1)).length)).map B) rfl sz_24 rfl rfl rfl (by simp [upN_len (leafH_len e)]) (all1 _) H 0 rfl (by simp [z32, upN_len (leafH_len e)]) (putL_all (by simp [z32, upN_len (leafH_len e)])) (fun w H => ?_)
            refine l_nil ⟨(fun h => nomatch h), ?_⟩
            refine r_pbool rfl rfl rfl ?_
            refine r_nil ?_
            refine ⟨by repeat' first | exact Agr.mix _ _ _ | exact Agr.refl _ _ | refine Agr.inner rfl ?_ | refine Agr.upd rfl ?_ | refine Agr.updL' rfl ?_, ?_⟩
            exact ⟨(b12, mt'), ⟨rfl, rfl, trivial⟩, hlaw, H⟩
          · refine rp_leaf ?_
            refine r_do rfl ?_
            refine b_alloc rfl ze_24 rfl H (fun b12 w H => ?_)
            refine l_nil ⟨fun _ _ => (by first | exact H | exact H.drop1 | exact H.drop1.drop1 | exact H.drop1.drop1.drop1), ?_⟩
            refine r_do rfl ?_
            refine b_call rfl cb_33 rfl (ih (splitN n) (by omega) (n := splitN n) (p := p) (e := e) (es := es.take (splitN n)) (path := (path.take (path.length - 1))) H (by first | exact rdin_take5 (hr.up 2 rfl) (splitN n) c | exact rdin_take5 (hr.up 3 rfl) (splitN n) c) (by simp only [List.length_take, List.length_drop]; omega) (by omega) (hok.take _) hva hpt (by first | exact rdin_take32 hpo (hpr.up 2 rfl) (path.length - 1) pc | exact rdin_take32 hpo (hpr.up 3 rfl) (path.length - 1) pc) hptl (by rw [List.length_take]; omega) (by omega) rfl (by omega) (by omega)) (fun v w hv => ?_)
            obtain ⟨mt', rfl, hlaw, H⟩ := hv
            refine l_nil ⟨fun _ _ => (by first | exact H | exact H.drop1 | exact H.drop1.drop1 | exact H.drop1.drop1.drop1), ?_⟩
            refine r_ptup rfl rfl rfl ?_
            refine r_pagg rfl rfl rfl ?_
            refine r_pbool rfl rfl rfl ?_
            refine r_do rfl ?_
            refine b_store (vs := ((upN (sidesN (splitN n) p) (path.take (path.length - 1)) (leafH e) (path.take (path.length - 1)).length)).map B) rfl sz_24 rfl rfl rfl (by simp [upN_len (leafH_len e)]) (all1 _) H 0 rfl (by simp [z32, upN_len (leafH_len e)]) (putL_all (by simp [z32, upN_len (leafH_len e)])) (fun w H => ?_)
            refine l_nil ⟨(fun h => nomatch h), ?_⟩
            refine r_pbool rfl rfl rfl ?_
            refine r_nil ?_
            refine ⟨by repeat' first | exact Agr.mix _ _ _ | exact Agr.refl _ _ | refine Agr.inner rfl ?_ | refine Agr.upd rfl ?_ | refine Agr.updL' rfl ?_, ?_⟩
            exact ⟨(b12, mt'), ⟨rfl, rfl, trivial⟩, hlaw, H⟩
        · rintro ⟨p1, mt⟩ ρ1 w ⟨hlaw, H⟩
          refine w_seq ?_
          refine w_drawT [7] [0, 4] [(0, 1), (1, 0), (2, 0), (3, 0), (4, 1), (5, 0), (6, 2), (7, 2)] mixed (by kernel_rfl) (fun _ _ _ h => fin_panic h) H (fun H => ?_)
          refine r_v rfl rfl (fun w hS => q_loadN (vs := ((upN (sidesN (splitN n) p) (path.take (path.length - 1)) (leafH e) (path.take (path.length - 1)).length)).map B) rfl ag_24 rfl (by simp [upN_len (leafH_len e)]) (hS.cells 0 rfl)) ?_
          refine r_pslice rfl rfl rfl ?_
          refine r_pint rfl rfl rfl ?_
          refine r_w rfl rfl (fun w => q_indexSliceE (path.length - 1) rfl el_42 rfl hap rfl rfl (by omega)) ?_
          refine r_v rfl rfl (fun w hS => q_loadN (vs := (path[path.length - 1]).map B) rfl ag_24 rfl (by simp [hll]) (path_at2 hap hpo (hpr.use hS 3 rfl) hlp)) ?_
          refine r_w rfl rfl (fun w => q_build (cs := P.cells) rfl sp_116 (by rw [hP]; exact fill_pair (upN_len (leafH_len e) _) hll)) ?_
          refine r_do rfl ?_
          refine b_alloc rfl ze_116 rfl H (fun b14 w H => ?_)
          refine l_nil ⟨fun _ _ => (by first | exact H | exact H.drop1 | exact H.drop1.drop1 | exact H.drop1.drop1.drop1), ?_⟩
          refine r_do rfl ?_
          refine b_store (vs := P.cells) rfl sz_116 rfl rfl rfl (by rw [pair_len hPo]; rfl) (all1 _) H 0 rfl (by rw [pair_len hPo]; rfl) (putL_all (by rw [pair_len hPo]; rfl)) (fun w H => ?_)
          refine l_nil ⟨(fun h => nomatch h), ?_⟩
          refine r_nil ?_
          refine w_seq ?_
          refine w_drawT [10, 12] [1, 3, 7] [(0, 0), (1, 1), (2, 0), (3, 1), (5, 0), (4, 2), (6, 0), (7, 1), (8, 0), (9, 2), (10, 2), (11, 0), (12, 2), (13, 0)] mixed (by kernel_rfl) (fun _ _ _ h => fin_panic h) H (fun H => ?_)
          refine r_w rfl rfl (fun w => q_fieldAddr rfl fo116_0 rfl) ?_
          refine r_v rfl rfl (fun w hS => q_loadN (vs := P.1.map B) rfl ag_24 rfl (by simp [hPo.1]) (pair_fst hPo (hS.cells 0 rfl))) ?_
          refine r_w rfl rfl (fun w => q_fieldAddr rfl fo116_1 rfl) ?_
          refine r_v rfl rfl (fun w hS => q_loadN (vs := P.2.map B) rfl ag_24 rfl (by simp [hPo.2]) (pair_snd hPo (hS.cells 0 rfl))) ?_
          refine r_pbool rfl rfl rfl ?_
          refine r_do rfl ?_
          refine b_call rfl cb_17 rfl (Node_ok H hPo.1 hPo.2) (fun v w hv => ?_)
          obtain ⟨rfl, H⟩ := hv
          refine l_nil ⟨fun _ _ => (by first | exact H | exact H.drop1 | exact H.drop1.drop1 | exact H.drop1.drop1.drop1), ?_⟩
          refine r_pbool rfl rfl rfl ?_
          refine r_split 70 rfl (fun h70 => ?_) (fun h70 => ?_)
          · try simp only [decide_eq_true_eq, decide_eq_false_iff_not, Bool.not_eq_true', Bool.not_eq_false', beq_iff_eq, beq_eq_false_iff_ne, bne_iff_ne, bne_eq_false_iff_eq, ne_eq, Int.not_lt, Int.not_le] at h70
            refine r_no1 rfl rfl ?_
            refine r_no rfl rfl ?_
            refine r_do rfl (l_no rfl (l_nil ⟨fun _ _ => (by first | exact H | exact H.drop1 | exact H.drop1.drop1), ?_⟩))
            refine r_do rfl (l_no rfl (l_nil ⟨(fun h => nomatch h), ?_⟩))
            refine r_pickT (v := .bool _) rfl rfl rfl rfl ?_
            refine r_do rfl ?_
            refine b_store (vs := (nodeH P.1 P.2).map B) rfl sz_24 rfl rfl rfl (by simp [nodeH_len]) (all1 _) H 2 rfl (by simp [z32, nodeH_len]) (putL_all (by simp [z32, nodeH_len])) (fun w H => ?_)
            refine l_nil ⟨(fun h => nomatch h), ?_⟩
            refine r_pbool rfl rfl rfl ?_
            refine r_nil ?_
            refine w_ret ?_
            refine finc2 (vs := (nodeH P.1 P.2).map B) rfl ag_24 (by simp [nodeH_len]) (H.cells 2 rfl) rfl ?_
            exact ⟨true, by first | (rw [hue, hP]; done) | (rw [hue, hP]; rfl), climb_true, (((H.erase 0).erase 0).erase 0).erase 0⟩
          · try simp only [decide_eq_true_eq, decide_eq_false_iff_not, Bool.not_eq_true', Bool.not_eq_false', beq_iff_eq, beq_eq_false_iff_ne, bne_iff_ne, bne_eq_false_iff_eq, ne_eq, Int.not_lt, Int.not_le] at h70
            refine r_v rfl rfl (fun w hS => q_loadN (vs := P.cells) rfl ag_116 rfl (pair_len hPo) (hS.cells 0 rfl)) ?_
            refine r_pslice rfl rfl rfl ?_
            refine r_do rfl ?_
            refine b_call rfl cb_75 rfl (halves_ok2 H (hr.up 4 rfl) hl hnc hok h2 (by omega)) (fun v w hv => ?_)
            obtain ⟨rfl, H⟩ := hv
            refine l_nil ⟨fun _ _ => (by first | exact H | exact H.drop1 | exact H.drop1.drop1 | exact H.drop1.drop1.drop1), ?_⟩
            refine r_do rfl ?_
            refine b_call rfl cb_74 rfl (one_ok H hPo (halvesP_ok es)) (fun v w hv => ?_)
            obtain ⟨rfl, H⟩ := hv
            refine l_nil ⟨(fun h => nomatch h), ?_⟩
            refine r_pickF (v := .bool _) rfl rfl rfl rfl ?_
            refine r_do rfl ?_
            refine b_store (vs := (nodeH P.1 P.2).map B) rfl sz_24 rfl rfl rfl (by simp [nodeH_len]) (all1 _) H 2 rfl (by simp [z32, nodeH_len]) (putL_all (by simp [z32, nodeH_len])) (fun w H => ?_)
            refine l_nil ⟨(fun h => nomatch h), ?_⟩
            refine r_pbool rfl rfl rfl ?_
            refine r_nil ?_
            refine w_ret ?_
            refine finc2 (vs := (nodeH P.1 P.2).map B) rfl ag_24 (by simp [nodeH_len]) (H.cells 2 rfl) rfl ?_
            obtain rfl : mt = false := by simpa using h70
            refine ⟨oneB P (halvesP es), by first | (rw [hue, hP]; done) | (rw [hue, hP]; rfl), ?_, (((H.erase 0).erase 0).erase 0).erase 0⟩
            subst hl
            subst hP
            rw [hue]
            exact climb_le h2 (by omega) (by omega) hlp hlaw
      · try simp only [decide_eq_true_eq, decide_eq_false_iff_not, Bool.not_eq_true', Bool.not_eq_false', beq_iff_eq, beq_eq_false_iff_ne, bne_iff_ne, bne_eq_false_iff_eq, ne_eq, Int.not_lt, Int.not_le] at c2
        have hle := long_gt (p := p) h2 (by omega)
        have hue := up_gt (h := leafH e) h2 (by omega) hpl hlp
        have hptl : (path.take (path.length - 1)).length = (sidesN (n - splitN n) (p - splitN n)).length := by rw [List.length_take]; omega
        obtain ⟨P, hP⟩ : ∃ P : Pair, P = (path[path.length - 1], (upN (sidesN (n - splitN n) (p - splitN n)) (path.take (path.length - 1)) (leafH e) (path.take (path.length - 1)).length)) := ⟨_, rfl⟩
        have hPo : PairOk P := by rw [hP]; exact ⟨hll, upN_len (leafH_len e) _⟩
        refine w_skip ?_
        refine w_cutG (G := Nat × Bool) [15, 16, 76, 77, 78, 79, 80, 81, 82, 83, 84, 85, 86, 87, 88, 89] (fun ⟨p1, mt⟩ => [(15, .pointer (some ⟨p1, 0, none⟩)), (16, .bool mt)]) (fun ⟨p1, mt⟩ w => ClimbLaw (es.drop (splitN n)) (p - splitN n) e (path.take (path.length - 1)) (upN (sidesN (n - splitN n) (p - splitN n)) (path.take (path.length - 1)) (leafH e) (path.take (path.length - 1)).length) mt ∧ St W w (blk p1 ((upN (sidesN (n - splitN n) (p - splitN n)) (path.take (path.length - 1)) (leafH e) (path.take (path.length - 1)).length).map B) 24 :: blk b8 z32 24 :: blk b6 e.cells 28 :: F)) (fun _ => rfl) ?_ ?_
        · refine w_drawP [15] [6] (.alt [(0, 0), (1, 0), (2, 0), (3, 0), (4, 0), (5, 0), (6, 1), (7, 0), (8, 0), (9, 0)] (.leaf [(10, 2), (11, 0), (12, 0), (13, 0), (14, 2), (15, 2), (16, 0)]) (.leaf [(14, 2), (10, 2), (11, 0), (12, 0), (13, 0), (15, 2), (16, 0)])) mixed (by kernel_rfl) (fun _ _ _ h => fin_panic h) H (fun H => ?_)
          refine rp_alt ?_
          refine r_pslice rfl rfl rfl ?_
          refine r_pint rfl rfl rfl ?_
          refine r_w rfl rfl (fun w => q_slice (l := splitN n) rfl el_22 rfl Bnd.none Bnd.none (Bnd.nat (by omega)) (by simp)) ?_
          refine r_pint rfl rfl rfl ?_
          refine r_pint rfl rfl rfl ?_
          first | refine r_w rfl rfl (fun w => q_subN (a := p) (b := splitN n) rfl rfl rfl ⟨by omega, by omega⟩) ?_ | refine r_pint rfl rfl rfl ?_
          refine r_v rfl rfl (fun w hS => q_loadN (vs := e.cells) rfl ag_28 rfl rfl (hS.cells 1 rfl)) ?_
          refine r_pslice rfl rfl rfl ?_
          refine r_pint rfl rfl rfl ?_
          refine r_w rfl rfl (fun w => q_slice (h := path.length - 1) rfl el_42 rfl Bnd.none (Bnd.nat (by omega)) Bnd.none (by simp)) ?_
          refine rp_two ?_ ?_
          · refine rp_leaf ?_
            refine r_do rfl ?_
            refine b_call rfl cb_33 rfl (ih (n - splitN n) (by omega) (n := n - splitN n) (p := p - splitN n) (e := e) (es := es.drop (splitN n)) (path := (path.take (path.length - 1))) H (by first | exact rdin_drop5 (hr.up 2 rfl) (by omega) | exact rdin_drop5 (hr.up 3 rfl) (by omega)) (by simp only [List.length_take, List.length_drop]; omega) (by omega) (hok.drop _) hva hpt (by first | exact rdin_take32 hpo (hpr.up 2 rfl) (path.length - 1) pc | exact rdin_take32 hpo (hpr.up 3 rfl) (path.length - 1) pc) hptl (by rw [List.length_take]; omega) (by omega) rfl (by omega) (by omega)) (fun v w hv => ?_)
            obtain ⟨mt', rfl, hlaw, H⟩ := hv
            refine l_nil ⟨fun _ _ => (by first | exact H | exact H.drop1 | exact H.drop1.drop1 | exact H.drop1.drop1.drop1), ?_⟩
            refine r_ptup rfl rfl rfl ?_
            refine r_pagg rfl rfl rfl ?_
            refine r_pbool rfl rfl rfl ?_
            refine r_do rfl ?_
            refine b_alloc rfl ze_24 rfl H (fun b15 w H => ?_)
            refine l_nil ⟨fun _ _ => (by first | exact H | exact H.drop1 | exact H.drop1.drop1 | exact H.drop1.drop1.drop1), ?_⟩
            refine r_do rfl ?_
            refine b_store (vs := ((upN (sidesN (n - splitN n) (p - splitN n)) (path.take (path.length - 1)) (leafH e) (path.take (path.length - 1)).length)).map B) rfl sz_24 rfl rfl rfl (by simp [upN_len (leafH_len e)]) (all1 _) H 0 rfl (by simp [z32, upN_len (leafH_len e)]) (putL_all (by simp [z32, upN_len (leafH_len e)])) (fun w H => ?_)
            refine l_nil ⟨(fun h => nomatch h), ?_⟩
            refine r_pbool rfl rfl rfl ?_
            refine r_nil ?_
            refine ⟨by repeat' first | exact Agr.mix _ _ _ | exact Agr.refl _ _ | refine Agr.inner rfl ?_ | refine Agr.upd rfl ?_ | refine Agr.updL' rfl ?_, ?_⟩
            exact ⟨(b15, mt'), ⟨rfl, rfl, trivial⟩, hlaw, H⟩
          · refine rp_leaf ?_
            refine r_do rfl ?_
            refine b_alloc rfl ze_24 rfl H (fun b15 w H => ?_)
            refine l_nil ⟨fun _ _ => (by first | exact H | exact H.drop1 | exact H.drop1.drop1 | exact H.drop1.drop1.drop1), ?_⟩
            refine r_do rfl ?_
            refine b_call rfl cb_33 rfl (ih (n - splitN n) (by omega) (n := n - splitN n) (p := p - splitN n) (e := e) (es := es.drop (splitN n)) (path := (path.take (path.length - 1))) H (by first | exact rdin_drop5 (hr.up 2 rfl) (by omega) | exact rdin_drop5 (hr.up 3 rfl) (by omega)) (by simp only [List.length_take, List.length_drop]; omega) (by omega) (hok.drop _) hva hpt (by first | exact rdin_take32 hpo (hpr.up 2 rfl) (path.length - 1) pc | exact rdin_take32 hpo (hpr.up 3 rfl) (path.length - 1) pc) hptl (by rw [List.length_take]; omega) (by omega) rfl (by omega) (by omega)) (fun v w hv => ?_)
            obtain ⟨mt', rfl, hlaw, H⟩ := hv
            refine l_nil ⟨fun _ _ => (by first | exact H | exact H.drop1 | exact H.drop1.drop1 | exact H.drop1.drop1.drop1), ?_⟩
            refine r_ptup rfl rfl rfl ?_
            refine r_pagg rfl rfl rfl ?_
            refine r_pbool rfl rfl rfl ?_
            refine r_do rfl ?_
            refine b_store (vs := ((upN (sidesN (n - splitN n) (p - splitN n)) (path.take (path.length - 1)) (leafH e) (path.take (path.length - 1)).length)).map B) rfl sz_24 rfl rfl rfl (by simp [upN_len (leafH_len e)]) (all1 _) H 0 rfl (by simp [z32, upN_len (leafH_len e)]) (putL_all (by simp [z32, upN_len (leafH_len e)])) (fun w H => ?_)
            refine l_nil ⟨(fun h => nomatch h), ?_⟩
            refine r_pbool rfl rfl rfl ?_
            refine r_nil ?_
            refine ⟨by repeat' first | exact Agr.mix _ _ _ | exact Agr.refl _ _ | refine Agr.inner rfl ?_ | refine Agr.upd rfl ?_ | refine Agr.updL' rfl ?_, ?_⟩
            exact ⟨(b15, mt'), ⟨rfl, rfl, trivial⟩, hlaw, H⟩
        · rintro ⟨p1, mt⟩ ρ1 w ⟨hlaw, H⟩
          refine w_seq ?_
          refine w_drawT [7] [3, 4] [(0, 0), (1, 0), (2, 0), (3, 1), (4, 1), (5, 0), (6, 2), (7, 2)] mixed (by kernel_rfl) (fun _ _ _ h => fin_panic h) H (fun H => ?_)
          refine r_pslice rfl rfl rfl ?_
          refine r_pint rfl rfl rfl ?_
          refine r_w rfl rfl (fun w => q_indexSliceE (path.length - 1) rfl el_42 rfl hap rfl rfl (by omega)) ?_
          refine r_v rfl rfl (fun w hS => q_loadN (vs := (path[path.length - 1]).map B) rfl ag_24 rfl (by simp [hll]) (path_at2 hap hpo (hpr.use hS 3 rfl) hlp)) ?_
          refine r_v rfl rfl (fun w hS => q_loadN (vs := ((upN (sidesN (n - splitN n) (p - splitN n)) (path.take (path.length - 1)) (leafH e) (path.take (path.length - 1)).length)).map B) rfl ag_24 rfl (by simp [upN_len (leafH_len e)]) (hS.cells 0 rfl)) ?_
          refine r_w rfl rfl (fun w => q_build (cs := P.cells) rfl sp_116 (by rw [hP]; exact fill_pair hll (upN_len (leafH_len e) _))) ?_
          refine r_do rfl ?_
          refine b_alloc rfl ze_116 rfl H (fun b17 w H => ?_)
          refine l_nil ⟨fun _ _ => (by first | exact H | exact H.drop1 | exact H.drop1.drop1 | exact H.drop1.drop1.drop1), ?_⟩
          refine r_do rfl ?_
          refine b_store (vs := P.cells) rfl sz_116 rfl rfl rfl (by rw [pair_len hPo]; rfl) (all1 _) H 0 rfl (by rw [pair_len hPo]; rfl) (putL_all (by rw [pair_len hPo]; rfl)) (fun w H => ?_)
          refine l_nil ⟨(fun h => nomatch h), ?_⟩
          refine r_nil ?_
          refine w_seq ?_
          refine w_drawT [10, 12] [1, 3, 7] [(0, 0), (1, 1), (2, 0), (3, 1), (5, 0), (4, 2), (6, 0), (7, 1), (8, 0), (9, 2), (10, 2), (11, 0), (12, 2), (13, 0)] mixed (by kernel_rfl) (fun _ _ _ h => fin_panic h) H (fun H => ?_)
          refine r_w rfl rfl (fun w => q_fieldAddr rfl fo116_0 rfl) ?_
          refine r_v rfl rfl (fun w hS => q_loadN (vs := P.1.map B) rfl ag_24 rfl (by simp [hPo.1]) (pair_fst hPo (hS.cells 0 rfl))) ?_
          refine r_w rfl rfl (fun w => q_fieldAddr rfl fo116_1 rfl) ?_
          refine r_v rfl rfl (fun w hS => q_loadN (vs := P.2.map B) rfl ag_24 rfl (by simp [hPo.2]) (pair_snd hPo (hS.cells 0 rfl))) ?_
          refine r_pbool rfl rfl rfl ?_
          refine r_do rfl ?_
          refine b_call rfl cb_17 rfl (Node_ok H hPo.1 hPo.2) (fun v w hv => ?_)
          obtain ⟨rfl, H⟩ := hv
          refine l_nil ⟨fun _ _ => (by first | exact H | exact H.drop1 | exact H.drop1.drop1 | exact H.drop1.drop1.drop1), ?_⟩
          refine r_pbool rfl rfl rfl ?_
          refine r_split 102 rfl (fun h102 => ?_) (fun h102 => ?_)
          · try simp only [decide_eq_true_eq, decide_eq_false_iff_not, Bool.not_eq_true', Bool.not_eq_false', beq_iff_eq, beq_eq_false_iff_ne, bne_iff_ne, bne_eq_false_iff_eq, ne_eq, Int.not_lt, Int.not_le] at h102
            refine r_no1 rfl rfl ?_
            refine r_no rfl rfl ?_
            refine r_do rfl (l_no rfl (l_nil ⟨fun _ _ => (by first | exact H | exact H.drop1 | exact H.drop1.drop1), ?_⟩))
            refine r_do rfl (l_no rfl (l_nil ⟨(fun h => nomatch h), ?_⟩))
            refine r_pickT (v := .bool _) rfl rfl rfl rfl ?_
            refine r_do rfl ?_
            refine b_store (vs := (nodeH P.1 P.2).map B) rfl sz_24 rfl rfl rfl (by simp [nodeH_len]) (all1 _) H 2 rfl (by simp [z32, nodeH_len]) (putL_all (by simp [z32, nodeH_len])) (fun w H => ?_)
            refine l_nil ⟨(fun h => nomatch h), ?_⟩
            refine r_pbool rfl rfl rfl ?_
            refine r_nil ?_
            refine w_ret ?_
            refine finc2 (vs := (nodeH P.1 P.2).map B) rfl ag_24 (by simp [nodeH_len]) (H.cells 2 rfl) rfl ?_
            exact ⟨true, by first | (rw [hue, hP]; done) | (rw [hue, hP]; rfl), climb_true, (((H.erase 0).erase 0).erase 0).erase 0⟩
          · try simp only [decide_eq_true_eq, decide_eq_false_iff_not, Bool.not_eq_true', Bool.not_eq_false', beq_iff_eq, beq_eq_false_iff_ne, bne_iff_ne, bne_eq_false_iff_eq, ne_eq, Int.not_lt, Int.not_le] at h102
            refine r_v rfl rfl (fun w hS => q_loadN (vs := P.cells) rfl ag_116 rfl (pair_len hPo) (hS.cells 0 rfl)) ?_
            refine r_pslice rfl rfl rfl ?_
            refine r_do rfl ?_
            refine b_call rfl cb_75 rfl (halves_ok2 H (hr.up 4 rfl) hl hnc hok h2 (by omega)) (fun v w hv => ?_)
            obtain ⟨rfl, H⟩ := hv
            refine l_nil ⟨fun _ _ => (by first | exact H | exact H.drop1 | exact H.drop1.drop1 | exact H.drop1.drop1.drop1), ?_⟩
            refine r_do rfl ?_
            refine b_call rfl cb_74 rfl (one_ok H hPo (halvesP_ok es)) (fun v w hv => ?_)
            obtain ⟨rfl, H⟩ := hv
            refine l_nil ⟨(fun h => nomatch h), ?_⟩
            refine r_pickF (v := .bool _) rfl rfl rfl rfl ?_
            refine r_do rfl ?_
            refine b_store (vs := (nodeH P.1 P.2).map B) rfl sz_24 rfl rfl rfl (by simp [nodeH_len]) (all1 _) H 2 rfl (by simp [z32, nodeH_len]) (putL_all (by simp [z32, nodeH_len])) (fun w H => ?_)
            refine l_nil ⟨(fun h => nomatch h), ?_⟩
            refine r_pbool rfl rfl rfl ?_
            refine r_nil ?_
            refine w_ret ?_
            refine finc2 (vs := (nodeH P.1 P.2).map B) rfl ag_24 (by simp [nodeH_len]) (H.cells 2 rfl) rfl ?_
            obtain rfl : mt = false := by simpa using h102
            refine ⟨oneB P (halvesP es), by first | (rw [hue, hP]; done) | (rw [hue, hP]; rfl), ?_, (((H.erase 0).erase 0).erase 0).erase 0⟩
            subst hl
            subst hP
            rw [hue]
            exact climb_gt h2 (by omega) hlp hlaw


end Go.Proofs.Ytcmmhpkgjcepdaa
