/- The tree's inclusion does what its contract says. -/
import Derived.Test.YtcmmhpkgjcepdaaTre4
namespace Go.Proofs.Ytcmmhpkgjcepdaa
open Go.EW
attribute [local irreducible] EW.W EW.L EW.fin block8 outB shaL
set_option linter.unusedVariables false
set_option linter.unusedSimpArgs false
attribute [local irreducible] swp headH

/-- digests one behind the other -/
def pathV (p : List (List UInt8)) : List Value := p.flatMap (·.map B)
def PathOk (p : List (List UInt8)) : Prop := ∀ h ∈ p, h.length = 32
theorem pathV_len : ∀ p : List (List UInt8), PathOk p → (pathV p).length = 32 * p.length
  | [], _ => rfl
  | h :: p, hp => by
    have := pathV_len p (fun x hx => hp x (List.mem_cons_of_mem _ hx))
    have h0 := hp h List.mem_cons_self
    unfold pathV at this ⊢
    rw [List.flatMap_cons, List.length_append, this, List.length_cons, List.length_map, h0]; omega
theorem pathV_append (x y : List (List UInt8)) : pathV (x ++ y) = pathV x ++ pathV y := List.flatMap_append
theorem pathV_one (h : List UInt8) : pathV [h] = h.map B := by simp [pathV]
theorem PathOk.take {p : List (List UInt8)} (h : PathOk p) (k : Nat) : PathOk (p.take k) := fun x hx => h x (List.mem_of_mem_take hx)
theorem PathOk.drop {p : List (List UInt8)} (h : PathOk p) (k : Nat) : PathOk (p.drop k) := fun x hx => h x (List.mem_of_mem_drop hx)
theorem PathOk.snoc {p : List (List UInt8)} (h : PathOk p) {x : List UInt8} (hx : x.length = 32) : PathOk (p ++ [x]) := fun y hy => by
  rcases List.mem_append.1 hy with hy | hy
  · exact h y hy
  · rw [List.mem_singleton.1 hy]; exact hx
theorem pathV_split (p : List (List UInt8)) (k : Nat) : pathV p = pathV (p.take k) ++ pathV (p.drop k) := by rw [← pathV_append, List.take_append_drop]
theorem pathV_take {p : List (List UInt8)} (hp : PathOk p) (k : Nat) : pathV (p.take k) = (pathV p).take (k * 32) := by
  by_cases hk : k ≤ p.length
  · rw [pathV_split p k, List.take_left' (by rw [pathV_len _ (hp.take k), List.length_take]; omega)]
  · rw [List.take_of_length_le (by omega), List.take_of_length_le (by rw [pathV_len _ hp]; omega)]
theorem pathV_drop {p : List (List UInt8)} (hp : PathOk p) (k : Nat) : pathV (p.drop k) = (pathV p).drop (k * 32) := by
  by_cases hk : k ≤ p.length
  · rw [pathV_split p k, List.drop_left' (by rw [pathV_len _ (hp.take k), List.length_take]; omega)]
  · rw [List.drop_eq_nil_of_le (by omega), List.drop_eq_nil_of_le (by rw [pathV_len _ hp]; omega)]; rfl
theorem path_at {p : List (List UInt8)} (hp : PathOk p) {i : Nat} (hi : i < p.length) : ((pathV p).drop (i * 32)).take 32 = p[i].map B := by
  rw [← pathV_drop hp, List.drop_eq_getElem_cons hi]
  have h0 := hp p[i] (List.getElem_mem hi)
  show (p[i].map B ++ _).take 32 = _
  rw [List.take_left' (by rw [List.length_map, h0])]
theorem path_cells {w : World} {a : Option Addr} {p : List (List UInt8)} {i : Nat} (hp : PathOk p) (h : Rd w a (pathV p)) (hi : i < p.length) : ∃ b o, a = some ⟨b, o, none⟩ ∧ Cells w b (o + i * 32) (p[i].map B) := by
  have hl := pathV_len p hp
  obtain ⟨b, o, ha, _⟩ := h 0 ((pathV p)[0]'(by omega)) (List.getElem?_eq_getElem (by omega))
  subst ha
  refine ⟨b, o, rfl, ?_⟩
  have := h.cells.sub (i * 32) 32
  rwa [path_at hp hi] at this
theorem path_at2 {w : World} {a : Option Addr} {b o i : Nat} {p : List (List UInt8)} (ha : a = some ⟨b, o, none⟩) (hp : PathOk p) (h : Rd w a (pathV p)) (hi : i < p.length) : Cells w b (o + i * 32) (p[i].map B) := by
  obtain ⟨b', o', h1, h2⟩ := path_cells hp h hi
  rw [ha] at h1; cases h1
  exact h2
/-- the path of a place -/
def inclF : Nat → List Ent → Nat → List (List UInt8)
  | 0, _, _ => []
  | f + 1, es, p => if es.length = 1 then [] else
    if p ≤ splitN es.length then inclF f (es.take (splitN es.length)) p ++ [headH (es.drop (splitN es.length))]
    else inclF f (es.drop (splitN es.length)) (p - splitN es.length) ++ [headH (es.take (splitN es.length))]
theorem inclF_fuel : ∀ (k : Nat) (es : List Ent) (p f g : Nat), 1 ≤ es.length → es.length ≤ k → es.length ≤ f → es.length ≤ g → inclF f es p = inclF g es p := by
  intro k
  induction k with
  | zero => intro es p f g h1 h0 hf hg; omega
  | succ k ih =>
    intro es p f g h1 h0 hf hg
    match f, g, hf, hg with
    | 0, _, hf, _ => omega
    | _ + 1, 0, _, hg => omega
    | f + 1, g + 1, hf, hg =>
      by_cases h2 : es.length = 1
      · rw [inclF, inclF, if_pos h2, if_pos h2]
      · have hs := splitN_spec (n := es.length) (by omega)
        rw [inclF, inclF, if_neg h2, if_neg h2, ih (es.take (splitN es.length)) p f g (by rw [List.length_take]; omega) (by rw [List.length_take]; omega) (by rw [List.length_take]; omega) (by rw [List.length_take]; omega),
          ih (es.drop (splitN es.length)) (p - splitN es.length) f g (by rw [List.length_drop]; omega) (by rw [List.length_drop]; omega) (by rw [List.length_drop]; omega) (by rw [List.length_drop]; omega)]
def inclN (es : List Ent) (p : Nat) : List (List UInt8) := inclF es.length es p
theorem inclN_one {es : List Ent} {p : Nat} (h : es.length = 1) : inclN es p = [] := by
  unfold inclN; rw [h, inclF, if_pos h]
theorem inclN_two {es : List Ent} {p : Nat} (h : 2 ≤ es.length) : inclN es p = if p ≤ splitN es.length then inclN (es.take (splitN es.length)) p ++ [headH (es.drop (splitN es.length))] else inclN (es.drop (splitN es.length)) (p - splitN es.length) ++ [headH (es.take (splitN es.length))] := by
  have hs := splitN_spec h
  unfold inclN
  obtain ⟨f, hf⟩ : ∃ f, es.length = f + 1 := ⟨es.length - 1, by omega⟩
  conv => lhs; rw [hf]
  rw [inclF, if_neg (by omega), inclF_fuel es.length (es.take (splitN es.length)) p f (es.take (splitN es.length)).length (by rw [List.length_take]; omega) (by rw [List.length_take]; omega) (by rw [List.length_take]; omega) (by omega),
    inclF_fuel es.length (es.drop (splitN es.length)) (p - splitN es.length) f (es.drop (splitN es.length)).length (by rw [List.length_drop]; omega) (by rw [List.length_drop]; omega) (by rw [List.length_drop]; omega) (by omega)]
theorem inclF_ok : ∀ (f : Nat) (es : List Ent) (p : Nat), PathOk (inclF f es p) ∧ (inclF f es p).length ≤ f
  | 0, _, _ => ⟨(fun h hh => absurd hh (by simp [inclF])), Nat.le_refl _⟩
  | f + 1, es, p => by
    rw [inclF]
    split
    · exact ⟨(fun h hh => absurd hh (by simp)), Nat.zero_le _⟩
    · split
      · have := inclF_ok f (es.take (splitN es.length)) p
        exact ⟨this.1.snoc (headH_len _), by simp; omega⟩
      · have := inclF_ok f (es.drop (splitN es.length)) (p - splitN es.length)
        exact ⟨this.1.snoc (headH_len _), by simp; omega⟩
theorem inclN_ok (es : List Ent) (p : Nat) : PathOk (inclN es p) ∧ (inclN es p).length ≤ es.length := inclF_ok _ _ _

theorem fill_hash {h : List UInt8} (hh : h.length = 32) : fillL (fun i => some (i * 32, 32)) (repL 1 (List.replicate 32 (Value.int .u8 0))) [(0, Value.agg (h.map B).toArray)] = some (h.map B) := by
  have h1 : (Value.agg (h.map B).toArray).cells = (h.map B).toArray := rfl
  have h2 : (repL 1 (List.replicate 32 (Value.int .u8 0))).length = 32 := by rw [length_repL]; simp
  simp only [fillL, h1, List.size_toArray, List.length_map, hh, h2, Nat.zero_mul, Nat.zero_add]
  rw [putL_all (by rw [h2]; simp [hh])]
  rfl

theorem inclusion_ok (k : Nat) : ∀ {W w : World} {F : List Seg} {a : Option Addr} {n c p : Nat} {es : List Ent}, St W w F → RdIn W F a (entsV es) → es.length = n → n ≤ c → EntsOk es → n = k → (1 ≤ p ∧ p ≤ n) → n ≤ 4398046511000 →
    Ok Try.prog 72 [.slice a n c, .int .i64 (p : Int)].toArray w (fun r w' => ∃ a' c', r = .slice a' (inclN es p).length c' ∧ St W w' (row 24 32 a' (inclN es p).length c' (pathV (inclN es p)) :: F)) := by
  induction k using Nat.strongRecOn with
  | _ k ih =>
    intro W w F a n c p es H hr hl hnc hok hnk hp hnb
    subst hnk
    refine enter (n := 39) (rs := #[.tmp 4]) Try.func72 rfl rfl rfl rfl ?_
    refine w_seq ?_
    refine w_region ?_
    refine l_pslice rfl rfl ?_
    refine l_nil ?_
    refine w_seq ?_
    refine w_seq ?_
    refine w_region ?_
    refine l_pslice rfl rfl ?_
    refine l_v rfl (q_lenSlice rfl el_22 rfl) ?_
    refine l_pbool rfl rfl ?_
    refine l_nil ?_
    refine w_cond rfl (fun c1 => ?_) (fun c1 => ?_)
    · try simp only [decide_eq_true_eq, decide_eq_false_iff_not, Bool.not_eq_true', Bool.not_eq_false', beq_iff_eq, beq_eq_false_iff_ne, bne_iff_ne, bne_eq_false_iff_eq, ne_eq, Int.not_lt, Int.not_le] at c1
      refine w_seq ?_
      refine w_region ?_
      refine l_pslice rfl rfl ?_
      refine l_nil ?_
      refine w_ret ?_
      refine fin1 (v := .slice _ _ _) rfl ?_
      exact ⟨none, 0, by rw [inclN_one (by omega)]; rfl, by rw [inclN_one (by omega)]; exact St.newRow H⟩
    · try simp only [decide_eq_true_eq, decide_eq_false_iff_not, Bool.not_eq_true', Bool.not_eq_false', beq_iff_eq, beq_eq_false_iff_ne, bne_iff_ne, bne_eq_false_iff_eq, ne_eq, Int.not_lt, Int.not_le] at c1
      have h2 : 2 ≤ n := by omega
      have hsp := splitN_spec h2
      have hi2 := inclN_two (es := es) (p := p) (by omega)
      rw [hl] at hi2
      refine w_skip ?_
      refine w_seq ?_
      refine w_region ?_
      refine l_pslice rfl rfl ?_
      refine l_v rfl (q_lenSlice rfl el_22 rfl) ?_
      refine b_call rfl cb_51 rfl (split_ok (n := n) ⟨by omega, by omega⟩) (fun v w hv => ?_)
      obtain ⟨rfl, rfl⟩ := hv
      refine l_pint rfl rfl ?_
      refine l_nil ?_
      refine w_seq ?_
      refine w_seq ?_
      refine w_region ?_
      refine l_pint rfl rfl ?_
      refine l_pint rfl rfl ?_
      refine l_pbool rfl rfl ?_
      refine l_nil ?_
      refine w_cond rfl (fun c2 => ?_) (fun c2 => ?_)
      · try simp only [decide_eq_true_eq, decide_eq_false_iff_not, Bool.not_eq_true', Bool.not_eq_false', beq_iff_eq, beq_eq_false_iff_ne, bne_iff_ne, bne_eq_false_iff_eq, ne_eq, Int.not_lt, Int.not_le] at c2
        rw [if_pos (by omega)] at hi2
        have hio := inclN_ok (es.take (splitN n)) p
        rw [List.length_take] at hio
        refine w_seq ?_
        refine w_drawT [4, 8, 9, 10] [] [(0, 0), (1, 0), (2, 0), (3, 0), (5, 0), (6, 0), (7, 0), (4, 2), (8, 2), (9, 2), (10, 2), (11, 0)] mixed (by kernel_rfl) (fun _ _ _ h => fin_panic h) H (fun H => ?_)
        refine r_pslice rfl rfl rfl ?_
        refine r_pint rfl rfl rfl ?_
        refine r_w rfl rfl (fun w => q_slice (h := splitN n) rfl el_22 rfl Bnd.none (Bnd.nat (by omega)) Bnd.none (by simp)) ?_
        refine r_pint rfl rfl rfl ?_
        refine r_pslice rfl rfl rfl ?_
        refine r_pint rfl rfl rfl ?_
        refine r_w rfl rfl (fun w => q_slice (l := splitN n) rfl el_22 rfl Bnd.none Bnd.none (Bnd.nat (by omega)) (by simp)) ?_
        refine r_do rfl ?_
        refine b_call rfl cb_72 rfl (ih (splitN n) (by omega) (n := splitN n) (p := p) (es := es.take (splitN n)) H (rdin_take5 (hr) (splitN n) c) (by rw [List.length_take]; omega) (by omega) (hok.take _) rfl ⟨by omega, by omega⟩ (by omega)) (fun v w hv => ?_)
        obtain ⟨a1, c1', rfl, H⟩ := hv
        refine l_nil ⟨(fun h => nomatch h), ?_⟩
        refine r_do rfl ?_
        refine b_call rfl cb_14 rfl (Head_ok (n - splitN n) (n := n - splitN n) (es := es.drop (splitN n)) H (rdin_drop5 (hr.up 1 rfl) (by omega)) (by rw [List.length_drop]; omega) (by omega) (hok.drop _) rfl (by omega)) (fun v w hv => ?_)
        obtain ⟨rfl, H⟩ := hv
        refine l_nil ⟨(fun h => nomatch h), ?_⟩
        refine r_do rfl ?_
        refine b_buildSlice (cs := (headH (es.drop (splitN n))).map B) rfl el_42 ze_24 rfl rfl (fill_hash (headH_len _)) H (fun b24 w H => ?_)
        refine l_nil ⟨(fun h => nomatch h), ?_⟩
        refine r_do rfl ?_
        refine b_append rfl el_42 ze_24 rfl rfl rfl H 1 rfl (ys := (headH (es.drop (splitN n))).map B) (Rd.mk (H.cells0 0 rfl)) (by simp [headH_len]) (oneB _) ⟨by omega, by simp only [maxLen]; omega⟩ (fun a25 c25 w H => ?_)
        refine l_nil ⟨(fun h => nomatch h), ?_⟩
        refine r_pslice rfl rfl rfl ?_
        refine r_nil ?_
        refine w_ret ?_
        refine fin1 (v := .slice _ _ _) rfl ?_
        refine ⟨a25, c25, congrArg (fun x => Value.slice a25 x c25) (by rw [hi2]; simp), ?_⟩
        rw [hi2, List.length_append, pathV_append, pathV_one]
        exact H.drop1
      · try simp only [decide_eq_true_eq, decide_eq_false_iff_not, Bool.not_eq_true', Bool.not_eq_false', beq_iff_eq, beq_eq_false_iff_ne, bne_iff_ne, bne_eq_false_iff_eq, ne_eq, Int.not_lt, Int.not_le] at c2
        rw [if_neg (by omega)] at hi2
        have hio := inclN_ok (es.drop (splitN n)) (p - splitN n)
        rw [List.length_drop] at hio
        refine w_skip ?_
        refine w_seq ?_
        refine w_drawT [6, 10, 11, 12] [] [(0, 0), (1, 0), (2, 0), (3, 0), (4, 0), (5, 0), (7, 0), (8, 0), (9, 0), (6, 2), (10, 2), (11, 2), (12, 2), (13, 0)] mixed (by kernel_rfl) (fun _ _ _ h => fin_panic h) H (fun H => ?_)
        refine r_pslice rfl rfl rfl ?_
        refine r_pint rfl rfl rfl ?_
        refine r_w rfl rfl (fun w => q_slice (l := splitN n) rfl el_22 rfl Bnd.none Bnd.none (Bnd.nat (by omega)) (by simp)) ?_
        refine r_pint rfl rfl rfl ?_
        refine r_pint rfl rfl rfl ?_
        first | refine r_w rfl rfl (fun w => q_subN (a := p) (b := splitN n) rfl rfl rfl ⟨by omega, by omega⟩) ?_ | refine r_pint rfl rfl rfl ?_
        refine r_pslice rfl rfl rfl ?_
        refine r_pint rfl rfl rfl ?_
        refine r_w rfl rfl (fun w => q_slice (h := splitN n) rfl el_22 rfl Bnd.none (Bnd.nat (by omega)) Bnd.none (by simp)) ?_
        refine r_do rfl ?_
        refine b_call rfl cb_72 rfl (ih (n - splitN n) (by omega) (n := n - splitN n) (p := p - splitN n) (es := es.drop (splitN n)) H (rdin_drop5 (hr) (by omega)) (by rw [List.length_drop]; omega) (by omega) (hok.drop _) rfl ⟨by omega, by omega⟩ (by omega)) (fun v w hv => ?_)
        obtain ⟨a1, c1', rfl, H⟩ := hv
        refine l_nil ⟨(fun h => nomatch h), ?_⟩
        refine r_do rfl ?_
        refine b_call rfl cb_14 rfl (Head_ok (splitN n) (n := splitN n) (es := es.take (splitN n)) H (rdin_take5 (hr.up 1 rfl) (splitN n) c) (by rw [List.length_take]; omega) (by omega) (hok.take _) rfl (by omega)) (fun v w hv => ?_)
        obtain ⟨rfl, H⟩ := hv
        refine l_nil ⟨(fun h => nomatch h), ?_⟩
        refine r_do rfl ?_
        refine b_buildSlice (cs := (headH (es.take (splitN n))).map B) rfl el_42 ze_24 rfl rfl (fill_hash (headH_len _)) H (fun b37 w H => ?_)
        refine l_nil ⟨(fun h => nomatch h), ?_⟩
        refine r_do rfl ?_
        refine b_append rfl el_42 ze_24 rfl rfl rfl H 1 rfl (ys := (headH (es.take (splitN n))).map B) (Rd.mk (H.cells0 0 rfl)) (by simp [headH_len]) (oneB _) ⟨by omega, by simp only [maxLen]; omega⟩ (fun a38 c38 w H => ?_)
        refine l_nil ⟨(fun h => nomatch h), ?_⟩
        refine r_pslice rfl rfl rfl ?_
        refine r_nil ?_
        refine w_ret ?_
        refine fin1 (v := .slice _ _ _) rfl ?_
        refine ⟨a38, c38, congrArg (fun x => Value.slice a38 x c38) (by rw [hi2]; simp), ?_⟩
        rw [hi2, List.length_append, pathV_append, pathV_one]
        exact H.drop1


end Go.Proofs.Ytcmmhpkgjcepdaa
