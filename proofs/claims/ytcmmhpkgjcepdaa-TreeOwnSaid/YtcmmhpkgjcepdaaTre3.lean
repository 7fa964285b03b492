/- The tree's split and Head do what their contracts say. -/
import Derived.Test.YtcmmhpkgjcepdaaTre2
namespace Go.Proofs.Ytcmmhpkgjcepdaa
open Go.EW
attribute [local irreducible] EW.W EW.L EW.fin block8 outB shaL
set_option linter.unusedVariables false
set_option linter.unusedSimpArgs false

def sgo (n : Nat) : Nat → Nat → Nat
  | 0, k => k
  | f + 1, k => if 2 * k < n then sgo n f (2 * k) else k
/-- the greatest power of two below n -/
def splitN (n : Nat) : Nat := sgo n n 1
theorem sgo_spec {n : Nat} : ∀ (f k : Nat), 1 ≤ k → k < n → n ≤ k + f → 1 ≤ sgo n f k ∧ sgo n f k < n ∧ n ≤ 2 * sgo n f k
  | 0, k, h1, h2, h3 => by simp only [sgo]; omega
  | f + 1, k, h1, h2, h3 => by
    rw [sgo]
    split
    · exact sgo_spec f (2 * k) (by omega) (by omega) (by omega)
    · omega
theorem splitN_spec {n : Nat} (h : 2 ≤ n) : 1 ≤ splitN n ∧ splitN n < n ∧ n ≤ 2 * splitN n := sgo_spec n 1 (by omega) (by omega) (by omega)
def entsV (es : List Ent) : List Value := es.flatMap Ent.cells
theorem entsV_len : ∀ es : List Ent, (entsV es).length = 5 * es.length
  | [] => rfl
  | e :: es => by
    have := entsV_len es
    unfold entsV at this ⊢
    rw [List.flatMap_cons, List.length_append, this, List.length_cons]
    show 5 + _ = _
    omega
theorem entsV_append (x y : List Ent) : entsV (x ++ y) = entsV x ++ entsV y := List.flatMap_append
theorem entsV_split (es : List Ent) (k : Nat) : entsV es = entsV (es.take k) ++ entsV (es.drop k) := by rw [← entsV_append, List.take_append_drop]
theorem entsV_take (es : List Ent) (k : Nat) : entsV (es.take k) = (entsV es).take (k * 5) := by
  by_cases hk : k ≤ es.length
  · rw [entsV_split es k, List.take_left' (by rw [entsV_len, List.length_take]; omega)]
  · rw [List.take_of_length_le (by omega), List.take_of_length_le (by rw [entsV_len]; omega)]
theorem entsV_drop (es : List Ent) (k : Nat) : entsV (es.drop k) = (entsV es).drop (k * 5) := by
  by_cases hk : k ≤ es.length
  · rw [entsV_split es k, List.drop_left' (by rw [entsV_len, List.length_take]; omega)]
  · rw [List.drop_eq_nil_of_le (by omega), List.drop_eq_nil_of_le (by rw [entsV_len]; omega)]; rfl
theorem ent_at {es : List Ent} {i : Nat} (hi : i < es.length) : ((entsV es).drop (i * 5)).take 5 = es[i].cells := by
  rw [← entsV_drop, List.drop_eq_getElem_cons hi]
  show (es[i].cells ++ _).take 5 = _
  rfl
theorem ent_cells {w : World} {a : Option Addr} {es : List Ent} {i : Nat} (h : Rd w a (entsV es)) (hi : i < es.length) : ∃ b o, a = some ⟨b, o, none⟩ ∧ Cells w b (o + i * 5) es[i].cells := by
  have hl := entsV_len es
  obtain ⟨b, o, ha, _⟩ := h 0 ((entsV es)[0]'(by omega)) (List.getElem?_eq_getElem (by omega))
  subst ha
  refine ⟨b, o, rfl, ?_⟩
  have := h.cells.sub (i * 5) 5
  rwa [ent_at hi] at this
def headF : Nat → List Ent → List UInt8
  | 0, _ => []
  | f + 1, es => match es with
    | [] => shaL []
    | [e] => leafH e
    | es => nodeH (headF f (es.take (splitN es.length))) (headF f (es.drop (splitN es.length)))
def headH (es : List Ent) : List UInt8 := headF (es.length + 1) es
theorem headF_two {f : Nat} {es : List Ent} (h : 2 ≤ es.length) : headF (f + 1) es = nodeH (headF f (es.take (splitN es.length))) (headF f (es.drop (splitN es.length))) := by
  match es, h with
  | _ :: _ :: _, _ => rfl
theorem headF_fuel : ∀ (k : Nat) (es : List Ent) (f g : Nat), es.length ≤ k → es.length < f → es.length < g → headF f es = headF g es := by
  intro k
  induction k with
  | zero =>
    intro es f g h0 hf hg
    obtain rfl := List.eq_nil_of_length_eq_zero (by omega : es.length = 0)
    match f, g, hf, hg with
    | f + 1, g + 1, _, _ => rfl
  | succ k ih =>
    intro es f g h0 hf hg
    match f, g, hf, hg with
    | f + 1, g + 1, hf, hg =>
      by_cases h2 : 2 ≤ es.length
      · have hs := splitN_spec h2
        rw [headF_two h2, headF_two h2, ih (es.take (splitN es.length)) f g (by rw [List.length_take]; omega) (by rw [List.length_take]; omega) (by rw [List.length_take]; omega), ih (es.drop (splitN es.length)) f g (by rw [List.length_drop]; omega) (by rw [List.length_drop]; omega) (by rw [List.length_drop]; omega)]
      · match es, h2 with
        | [], _ => rfl
        | [e], _ => rfl
        | _ :: _ :: _, h2 => exact absurd (by simp) h2
theorem headH_two {es : List Ent} (h : 2 ≤ es.length) : headH es = nodeH (headH (es.take (splitN es.length))) (headH (es.drop (splitN es.length))) := by
  have hs := splitN_spec h
  unfold headH
  rw [headF_two h, headF_fuel es.length (es.take (splitN es.length)) es.length ((es.take (splitN es.length)).length + 1) (by rw [List.length_take]; omega) (by rw [List.length_take]; omega) (by omega), headF_fuel es.length (es.drop (splitN es.length)) es.length ((es.drop (splitN es.length)).length + 1) (by rw [List.length_drop]; omega) (by rw [List.length_drop]; omega) (by omega)]
theorem headH_nil : headH [] = shaL [] := rfl
theorem headH_one (e : Ent) : headH [e] = leafH e := rfl
theorem headH_single {es : List Ent} (h0 : 0 < es.length) (h1 : es.length = 1) : headH es = leafH es[0] := by
  match es, h1 with
  | [e], _ => rfl
theorem headH_len (es : List Ent) : (headH es).length = 32 := by
  by_cases h : 2 ≤ es.length
  · rw [headH_two h]; exact nodeH_len _ _
  · match es, h with
    | [], _ => exact shaL_len _
    | [e], _ => exact leafH_len e
    | _ :: _ :: _, h => exact absurd (by simp) h
/-- entries whose texts fit -/
def EntsOk (es : List Ent) : Prop := ∀ e ∈ es, e.va.size ≤ 140737488351232
theorem EntsOk.take {es : List Ent} (h : EntsOk es) (k : Nat) : EntsOk (es.take k) := fun e he => h e (List.mem_of_mem_take he)
theorem EntsOk.drop {es : List Ent} (h : EntsOk es) (k : Nat) : EntsOk (es.drop k) := fun e he => h e (List.mem_of_mem_drop he)
theorem rdin_take5 {W : World} {F : List Seg} {a : Option Addr} {es : List Ent} (h : RdIn W F a (entsV es)) (k c : Nat) : RdIn W F (subA a 5 0 c) (entsV (es.take k)) := by
  have := h.subA (sz := 5) (l := 0) (m := c) (j := k * 5) (fun _ => .inr rfl)
  rw [entsV_take]
  simpa using this
theorem rdin_drop5 {W : World} {F : List Seg} {a : Option Addr} {es : List Ent} (h : RdIn W F a (entsV es)) {k c : Nat} (hc : es.length ≤ c) : RdIn W F (subA a 5 k c) (entsV (es.drop k)) := by
  have := h.subA (sz := 5) (l := k) (m := c) (j := (es.length - k) * 5) (fun hk => .inl (by omega))
  rw [List.take_of_length_le (by rw [List.length_drop, entsV_len]; omega)] at this
  rw [entsV_drop]
  exact this

theorem split_ok {w : World} {n : Nat} (hn : 1 ≤ n ∧ n ≤ 9223372036854775807) :
    Ok Try.prog 51 [.int .i64 (n : Int)].toArray w (fun r w' => r = .int .i64 (splitN n : Int) ∧ w' = w) := by
  refine enter (n := 12) (rs := #[.tmp 2]) Try.func51 rfl rfl rfl rfl ?_
  refine w_seq ?_
  refine w_region ?_
  refine l_pint rfl rfl ?_
  refine l_nil ?_
  refine w_seq ?_
  refine w_region ?_
  refine l_pint rfl rfl ?_
  refine l_nil ?_
  refine w_seq ?_
  refine w_block ?_
  refine w_loopG (G := Nat) [3, 4, 5, 6, 7, 8, 9, 10] (fun k => [(3, .int .i64 ((k : Nat) : Int))]) (fun m k w' => w' = w ∧ (1 ≤ k ∧ k ≤ n ∧ n ≤ k + m) ∧ sgo n m k = splitN n) (fun _ => rfl) ?_ ?_
  · exact ⟨n, 1, ⟨rfl, trivial⟩, rfl, ⟨by omega, by omega, by omega⟩, rfl⟩
  · rintro m k ρ1 w' ⟨rfl, ⟨hk1, hkn, hmk⟩, hs⟩
    refine w_seq ?_
    refine w_seq ?_
    refine w_region ?_
    refine l_pint rfl rfl ?_
    refine l_pint rfl rfl ?_
    refine l_pint rfl rfl ?_
    first | refine l_v rfl (q_sub rfl rfl rfl (by simp only [inK]; omega)) ?_ | refine l_pint rfl rfl ?_
    refine l_pbool rfl rfl ?_
    refine l_nil ?_
    refine w_cond rfl (fun c1 => ?_) (fun c1 => ?_)
    · try simp only [decide_eq_true_eq, decide_eq_false_iff_not, Bool.not_eq_true', Bool.not_eq_false', beq_iff_eq, beq_eq_false_iff_ne, bne_iff_ne, bne_eq_false_iff_eq, ne_eq, Int.not_lt, Int.not_le] at c1
      obtain ⟨m', rfl⟩ : ∃ m', m = m' + 1 := ⟨m - 1, by omega⟩
      rw [sgo, if_pos (by omega)] at hs
      refine w_skip ?_
      refine w_block ?_
      refine w_region ?_
      refine l_pint rfl rfl ?_
      first | refine l_v rfl (q_mul rfl rfl rfl (by simp only [inK]; omega)) ?_ | refine l_pint rfl rfl ?_
      refine l_pint rfl rfl ?_
      refine l_nil ?_
      refine ⟨by repeat' first | exact Agr.mix _ _ _ | exact Agr.refl _ _ | refine Agr.inner rfl ?_ | refine Agr.upd rfl ?_ | refine Agr.updL' rfl ?_, ?_⟩
      exact ⟨m', 2 * k, by omega, ⟨congrArg (Value.int .i64) (by omega), trivial⟩, rfl, ⟨by omega, by omega, by omega⟩, hs⟩
    · try simp only [decide_eq_true_eq, decide_eq_false_iff_not, Bool.not_eq_true', Bool.not_eq_false', beq_iff_eq, beq_eq_false_iff_ne, bne_iff_ne, bne_eq_false_iff_eq, ne_eq, Int.not_lt, Int.not_le] at c1
      have e : k = splitN n := by
        rw [← hs]
        match m with
        | 0 => rfl
        | m + 1 => rw [sgo, if_neg (by omega)]
      refine w_exit ?_
      refine w_seq ?_
      refine w_region ?_
      refine l_pint rfl rfl ?_
      refine l_pint rfl rfl ?_
      refine l_nil ?_
      refine w_ret ?_
      refine fin1 (v := .int _ _) rfl ?_
      exact ⟨by rw [e], rfl⟩

theorem Head_ok (k : Nat) : ∀ {W w : World} {F : List Seg} {a : Option Addr} {n c : Nat} {es : List Ent}, St W w F → RdIn W F a (entsV es) → es.length = n → n ≤ c → EntsOk es → n = k → n ≤ 140737488355328 →
    Ok Try.prog 14 [.slice a n c].toArray w (fun r w' => r = .agg ((headH es).map B).toArray ∧ St W w' F) := by
  induction k using Nat.strongRecOn with
  | _ k ih =>
    intro W w F a n c es H hr hl hnc hok hnk hnb
    subst hnk
    refine enter (n := 27) (rs := #[.cell 2 24]) Try.func14 rfl rfl rfl rfl ?_
    refine w_seq ?_
    refine w_region ?_
    refine b_alloc rfl ze_24 rfl H (fun b2 w H => ?_)
    refine l_nil ?_
    refine w_seq ?_
    refine w_seq ?_
    refine w_region ?_
    refine l_pslice rfl rfl ?_
    refine l_v rfl (q_lenSlice rfl el_22 rfl) ?_
    refine l_nil ?_
    refine w_block ?_
    refine w_seq ?_
    refine w_region ?_
    refine l_pbool rfl rfl ?_
    refine l_pbool rfl rfl ?_
    refine l_nil ?_
    refine w_cond rfl (fun c1 => ?_) (fun c1 => ?_)
    · try simp only [decide_eq_true_eq, decide_eq_false_iff_not, Bool.not_eq_true', Bool.not_eq_false', beq_iff_eq, beq_eq_false_iff_ne, bne_iff_ne, bne_eq_false_iff_eq, ne_eq, Int.not_lt, Int.not_le] at c1
      refine w_seq ?_
      refine w_region ?_
      refine b_call rfl cb_50 rfl (SumB_to H (bs := []) RdIn.nil rfl (Nat.le_refl _) (by decide)) (fun v w hv => ?_)
      obtain ⟨rfl, H⟩ := hv
      refine b_store (vs := (shaL []).map B) rfl sz_24 rfl rfl rfl (by simp [shaL_len]) (all1 _) H 0 rfl (by simp [shaL_len]) (putL_all (by simp [shaL_len])) (fun w H => ?_)
      refine l_nil ?_
      refine w_ret ?_
      refine finc (vs := (shaL []).map B) rfl ag_24 (by simp [shaL_len]) (H.cells 0 rfl) ?_
      have e : es = [] := List.eq_nil_of_length_eq_zero (by omega)
      subst e
      exact ⟨rfl, H.erase 0⟩
    · try simp only [decide_eq_true_eq, decide_eq_false_iff_not, Bool.not_eq_true', Bool.not_eq_false', beq_iff_eq, beq_eq_false_iff_ne, bne_iff_ne, bne_eq_false_iff_eq, ne_eq, Int.not_lt, Int.not_le] at c1
      refine w_seq ?_
      refine w_region ?_
      refine l_pbool rfl rfl ?_
      refine l_pbool rfl rfl ?_
      refine l_nil ?_
      refine w_cond rfl (fun c2 => ?_) (fun c2 => ?_)
      · try simp only [decide_eq_true_eq, decide_eq_false_iff_not, Bool.not_eq_true', Bool.not_eq_false', beq_iff_eq, beq_eq_false_iff_ne, bne_iff_ne, bne_eq_false_iff_eq, ne_eq, Int.not_lt, Int.not_le] at c2
        have h0 : 0 < es.length := by omega
        obtain ⟨be, oe, hae, hce⟩ := ent_cells (hr.use H 1 rfl) h0
        refine w_seq ?_
        refine w_region ?_
        refine l_pslice rfl rfl ?_
        refine l_v rfl (q_indexSliceE 0 rfl el_22 rfl hae rfl rfl (by omega)) ?_
        refine l_v rfl (q_loadN (vs := es[0].cells) rfl ag_28 rfl rfl hce) ?_
        refine b_call rfl cb_19 rfl (Leaf_ok H es[0] (hok _ (List.getElem_mem h0))) (fun v w hv => ?_)
        obtain ⟨rfl, H⟩ := hv
        refine b_store (vs := (leafH es[0]).map B) rfl sz_24 rfl rfl rfl (by simp [leafH_len]) (all1 _) H 0 rfl (by simp [leafH_len]) (putL_all (by simp [leafH_len])) (fun w H => ?_)
        refine l_nil ?_
        refine w_ret ?_
        refine finc (vs := (leafH es[0]).map B) rfl ag_24 (by simp [leafH_len]) (H.cells 0 rfl) ?_
        exact ⟨congrArg (fun x => Value.agg (List.map B x).toArray) (headH_single h0 (by omega)).symm, H.erase 0⟩
      · try simp only [decide_eq_true_eq, decide_eq_false_iff_not, Bool.not_eq_true', Bool.not_eq_false', beq_iff_eq, beq_eq_false_iff_ne, bne_iff_ne, bne_eq_false_iff_eq, ne_eq, Int.not_lt, Int.not_le] at c2
        have h2 : 2 ≤ n := by omega
        have hsp := splitN_spec h2
        refine w_skip ?_
        refine w_seq ?_
        refine w_region ?_
        refine l_pslice rfl rfl ?_
        refine l_v rfl (q_lenSlice rfl el_22 rfl) ?_
        refine b_call rfl cb_51 rfl (split_ok (n := n) ⟨by omega, by omega⟩) (fun v w hv => ?_)
        obtain ⟨rfl, rfl⟩ := hv
        refine l_pint rfl rfl ?_
        refine l_nil ?_
        refine w_seq ?_
        refine w_drawT [3, 7, 8, 9] [] [(0, 0), (1, 0), (2, 0), (4, 0), (5, 0), (6, 0), (3, 2), (7, 2), (8, 2), (9, 2)] mixed (by kernel_rfl) (fun _ _ _ h => fin_panic h) H (fun H => ?_)
        refine r_pslice rfl rfl rfl ?_
        refine r_pint rfl rfl rfl ?_
        refine r_w rfl rfl (fun w => q_slice (h := splitN n) rfl el_22 rfl Bnd.none (Bnd.nat (by omega)) Bnd.none (by simp)) ?_
        refine r_pslice rfl rfl rfl ?_
        refine r_pint rfl rfl rfl ?_
        refine r_w rfl rfl (fun w => q_slice (l := splitN n) rfl el_22 rfl Bnd.none Bnd.none (Bnd.nat (by omega)) (by simp)) ?_
        refine r_do rfl ?_
        refine b_call rfl cb_14 rfl (ih (splitN n) (by omega) (n := splitN n) (es := es.take (splitN n)) H (rdin_take5 (hr.up 1 rfl) (splitN n) c) (by rw [List.length_take]; omega) (by omega) (hok.take _) rfl (by omega)) (fun v w hv => ?_)
        obtain ⟨rfl, H⟩ := hv
        refine l_nil ⟨(fun h => nomatch h), ?_⟩
        refine r_do rfl ?_
        refine b_call rfl cb_14 rfl (ih (n - splitN n) (by omega) (n := n - splitN n) (es := es.drop (splitN n)) H (rdin_drop5 (hr.up 1 rfl) (by omega)) (by rw [List.length_drop]; omega) (by omega) (hok.drop _) rfl (by omega)) (fun v w hv => ?_)
        obtain ⟨rfl, H⟩ := hv
        refine l_nil ⟨(fun h => nomatch h), ?_⟩
        refine r_do rfl ?_
        refine b_call rfl cb_17 rfl (Node_ok H (headH_len _) (headH_len _)) (fun v w hv => ?_)
        obtain ⟨rfl, H⟩ := hv
        refine l_nil ⟨(fun h => nomatch h), ?_⟩
        refine r_do rfl ?_
        refine b_store (vs := (nodeH (headH (es.take (splitN n))) (headH (es.drop (splitN n)))).map B) rfl sz_24 rfl rfl rfl (by simp [nodeH_len]) (all1 _) H 0 rfl (by simp [nodeH_len]) (putL_all (by simp [nodeH_len])) (fun w H => ?_)
        refine l_nil ⟨(fun h => nomatch h), ?_⟩
        refine r_nil ?_
        refine w_ret ?_
        refine finc (vs := (nodeH (headH (es.take (splitN n))) (headH (es.drop (splitN n)))).map B) rfl ag_24 (by simp [nodeH_len]) (H.cells 0 rfl) ?_
        refine ⟨?_, H.erase 0⟩
        rw [headH_two (es := es) (by omega), hl]


end Go.Proofs.Ytcmmhpkgjcepdaa
