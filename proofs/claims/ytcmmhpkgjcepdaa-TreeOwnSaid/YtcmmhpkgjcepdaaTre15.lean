/- The law TreeTakes answers true, of every log, place and size. -/
import Derived.Test.YtcmmhpkgjcepdaaTre14
namespace Go.Proofs.Ytcmmhpkgjcepdaa
open Go.EW
attribute [local irreducible] EW.W EW.L EW.fin block8 outB shaL
set_option linter.unusedVariables false
set_option linter.unusedSimpArgs false
attribute [local irreducible] swp headH leafH nodeH inclN sidesN bothN lenN incR incdR extR unlikeN consN conR

theorem conR_ok (es : List Ent) (x : Int) : PathOk (conR es x).1 ∧ (conR es x).1.length ≤ es.length := by
  unfold conR
  split
  · exact ⟨(fun h hh => absurd hh (by simp)), Nat.zero_le _⟩
  · split
    · exact ⟨(fun h hh => absurd hh (by simp)), Nat.zero_le _⟩
    · exact consN_ok _ _ _
theorem conR_short {es : List Ent} {m c : Nat} (hm : m ≤ es.length) (h : es.length < 2 ^ c) : (conR es m).1.length ≤ c + 1 := by
  unfold conR
  rw [if_neg (by omega)]
  split
  · exact Nat.zero_le _
  · rw [Int.toNat_natCast]
    exact cons_short c m es true (by omega) hm (by omega)
theorem incR_in {es : List Ent} {p : Nat} (h1 : 1 ≤ p) (h2 : p ≤ es.length) : incR es p = (inclN es p, 0) := by
  unfold incR
  rw [if_neg (by omega), Int.toNat_natCast]
theorem Inclusion_in {W w : World} {F : List Seg} {a : Option Addr} {n c p : Nat} {es : List Ent} (H : St W w F) (hr : RdIn W F a (entsV es)) (hl : es.length = n) (hnc : n ≤ c) (hok : EntsOk es) (hnb : n ≤ 4398046511000) (h1 : 1 ≤ p) (h2 : p ≤ n) :
    Ok Try.prog 31 [.slice a n c, .int .i64 (p : Int)].toArray w (fun r w' => ∃ a' c', r = .tuple #[.slice a' (inclN es p).length c', .int .i64 0] ∧ St W w' (row 24 32 a' (inclN es p).length c' (pathV (inclN es p)) :: F)) := by
  have := Inclusion_ok H hr hl hnc hok hnb (p : Int)
  rw [incR_in h1 (by omega)] at this
  exact this
theorem q_addI {P : Program} {w : World} {e : Operand → Value} {oo : Oper} {x y : Operand} {T T' : TypeId} {a b : Nat} (ho : oo.op = .binOp .add T x y T') (hx : e x = .int .i64 (a : Int)) (hy : e y = .int .i64 (b : Int)) (h : a + b ≤ 9223372036854775807) : (execOp e oo).run P w = .ok (.value (.int .i64 ((a + b : Nat) : Int))) w := by
  rw [Int.natCast_add]
  exact q_add ho hx hy (by simp only [inK]; omega)
theorem incR_out {es : List Ent} (h : es.length = 0) : (incR es 1).2 = 61 := by
  unfold incR
  rw [if_pos (by omega)]

theorem TreeTakes_ok {W w : World} {F : List Seg} (H : St W w F) {aa : Option Addr} {m1 cp1 : Nat} {e1 : List Ent} (hr1 : RdIn W F aa (entsV e1)) (hl1 : e1.length = m1) (hc1 : m1 ≤ cp1) (hb1 : m1 ≤ 140737488355328) (ho1 : EntsOk e1) (x y : Int) :
    Ok Try.prog 9 [.slice aa m1 cp1, .int .i64 x, .int .i64 y].toArray w (fun r w' => r = .bool true ∧ ∃ S, St W w' S) := by
  refine enter (n := 94) (rs := #[.tmp 6]) Try.func9 rfl rfl rfl rfl ?_
  refine w_seq ?_
  refine w_region ?_
  refine l_pbool rfl rfl ?_
  refine l_nil ?_
  refine w_seq ?_
  refine w_region ?_
  refine l_pslice rfl rfl ?_
  refine b_call rfl cb_29 rfl (few_ok hr1 hl1 hc1 hb1) (fun v w hv => ?_)
  obtain ⟨n, a1, rfl, hr, hl, hc, h200, _, rfl⟩ := hv
  obtain ⟨es, hes⟩ : ∃ es, es = (e1.take 200) := ⟨_, rfl⟩
  rw [← hes] at hr hl
  have hok : EntsOk es := by rw [hes]; exact ho1.take _
  refine l_pslice rfl rfl ?_
  refine l_nil ?_
  refine w_seq ?_
  refine w_seq ?_
  refine w_region ?_
  refine b_call rfl cb_22 rfl (works_ok H) (fun v w hv => ?_)
  obtain ⟨rfl, H⟩ := hv
  refine l_pbool rfl rfl ?_
  refine l_nil ?_
  refine w_cond_f rfl ?_
  refine w_skip ?_
  refine w_seq ?_
  refine w_region ?_
  refine l_pslice rfl rfl ?_
  refine l_v rfl (q_lenSlice rfl el_22 rfl) ?_
  refine l_pint rfl rfl ?_
  refine l_nil ?_
  refine w_seq ?_
  refine w_region ?_
  refine l_pint rfl rfl ?_
  refine l_pint rfl rfl ?_
  refine b_call rfl cb_30 rfl (within_ok y (n := n) (by omega)) (fun v w hv => ?_)
  obtain ⟨m, hmn, rfl, rfl⟩ := hv
  have hel := ext_law (es := es) (m := m) (by omega)
  rw [hl] at hel
  refine l_pint rfl rfl ?_
  refine l_nil ?_
  refine w_seq ?_
  refine w_region ?_
  refine l_pslice rfl rfl ?_
  refine l_pint rfl rfl ?_
  refine b_call rfl cb_37 rfl (Consistency_ok H hr hl hc hok (by omega) (m : Int)) (fun v w hv => ?_)
  obtain ⟨a9, c9, rfl, H⟩ := hv
  have hcok := conR_ok es (m : Int)
  refine l_ptup rfl rfl ?_
  refine l_pslice rfl rfl ?_
  refine l_pint rfl rfl ?_
  refine l_pslice rfl rfl ?_
  refine l_pint rfl rfl ?_
  refine l_nil ?_
  refine w_seq ?_
  refine w_seq ?_
  refine w_region ?_
  refine l_pint rfl rfl ?_
  refine l_pbool rfl rfl ?_
  refine l_pbool rfl rfl ?_
  refine l_split 30 rfl (fun h30 => absurd h30 (by rw [hel.1]; simp)) (fun h30 => ?_)
  try simp only [decide_eq_true_eq, decide_eq_false_iff_not, Bool.not_eq_true', Bool.not_eq_false', beq_iff_eq, beq_eq_false_iff_ne, bne_iff_ne, bne_eq_false_iff_eq, ne_eq, Int.not_lt, Int.not_le] at h30
  refine l_pslice rfl rfl ?_
  refine l_v rfl (q_lenSlice rfl el_42 rfl) ?_
  refine l_pint rfl rfl ?_
  refine b_call rfl cb_39 rfl (binary_ok (n := n) (by omega)) (fun v w hv => ?_)
  obtain ⟨bk, rfl, hbk, hbn, rfl⟩ := hv
  have hcs := conR_short (es := es) (m := m) (c := bk) (by omega) (by omega)
  first | refine l_v rfl (q_add rfl rfl rfl (by simp only [inK]; omega)) ?_ | refine l_pint rfl rfl ?_
  refine l_pbool rfl rfl ?_
  refine l_pickF (v := .bool _) rfl rfl rfl ?_
  refine l_pbool rfl rfl ?_
  refine l_split 38 rfl (fun h38 => absurd h38 (by simp; omega)) (fun h38 => ?_)
  try simp only [decide_eq_true_eq, decide_eq_false_iff_not, Bool.not_eq_true', Bool.not_eq_false', beq_iff_eq, beq_eq_false_iff_ne, bne_iff_ne, bne_eq_false_iff_eq, ne_eq, Int.not_lt, Int.not_le] at h38
  refine l_pslice rfl rfl ?_
  refine l_pint rfl rfl ?_
  refine l_v rfl (q_slice (h := m) rfl el_22 rfl Bnd.none (Bnd.nat (j := m) (by omega)) Bnd.none (by simp)) ?_
  refine b_call rfl cb_14 rfl (Head_ok m (n := m) (es := es.take m) H (rdin_take5 (hr.up 1 rfl) m cp1) (by rw [List.length_take]; omega) (by omega) (hok.take _) rfl (by omega)) (fun v w hv => ?_)
  obtain ⟨rfl, H⟩ := hv
  refine l_pint rfl rfl ?_
  refine l_pslice rfl rfl ?_
  refine b_call rfl cb_14 rfl (Head_ok n H (hr.up 1 rfl) hl hc hok rfl (by omega)) (fun v w hv => ?_)
  obtain ⟨rfl, H⟩ := hv
  refine l_pint rfl rfl ?_
  refine l_pslice rfl rfl ?_
  refine b_call rfl cb_27 rfl (Extends_ok H (headH_len _) (headH_len _) (m : Int) (n : Int) hcok.1 (RdIn.row 0 rfl) (H.rowInv (i := 0) rfl).2.1 (by omega) (by omega)) (fun v w hv => ?_)
  obtain ⟨rfl, H⟩ := hv
  rw [hel.2]
  refine l_pbool rfl rfl ?_
  refine l_pickF (v := .bool _) rfl rfl rfl ?_
  refine l_nil ?_
  refine w_cond rfl (fun c1 => ?_) (fun c1 => ?_)
  · try simp only [decide_eq_true_eq, decide_eq_false_iff_not, Bool.not_eq_true', Bool.not_eq_false', beq_iff_eq, beq_eq_false_iff_ne, bne_iff_ne, bne_eq_false_iff_eq, ne_eq, Int.not_lt, Int.not_le] at c1
    exact absurd c1 (by simp)
  · try simp only [decide_eq_true_eq, decide_eq_false_iff_not, Bool.not_eq_true', Bool.not_eq_false', beq_iff_eq, beq_eq_false_iff_ne, bne_iff_ne, bne_eq_false_iff_eq, ne_eq, Int.not_lt, Int.not_le] at c1
    refine w_skip ?_
    refine w_seq ?_
    refine w_seq ?_
    refine w_region ?_
    refine l_pint rfl rfl ?_
    refine l_pbool rfl rfl ?_
    refine l_nil ?_
    refine w_cond rfl (fun c2 => ?_) (fun c2 => ?_)
    · try simp only [decide_eq_true_eq, decide_eq_false_iff_not, Bool.not_eq_true', Bool.not_eq_false', beq_iff_eq, beq_eq_false_iff_ne, bne_iff_ne, bne_eq_false_iff_eq, ne_eq, Int.not_lt, Int.not_le] at c2
      refine w_seq ?_
      refine w_region ?_
      refine l_pslice rfl rfl ?_
      refine b_call rfl cb_31 rfl (Inclusion_ok H (hr.up 1 rfl) hl hc hok (by omega) 1) (fun v w hv => ?_)
      obtain ⟨a12, c12, rfl, H⟩ := hv
      refine l_ptup rfl rfl ?_
      refine l_pslice rfl rfl ?_
      refine l_pint rfl rfl ?_
      refine l_pint rfl rfl ?_
      refine l_nil ?_
      refine w_seq ?_
      refine w_region ?_
      refine l_pint rfl rfl ?_
      refine l_pbool rfl rfl ?_
      refine l_pbool rfl rfl ?_
      refine l_nil ?_
      refine w_ret ?_
      refine fin1 (v := .bool _) rfl ?_
      exact ⟨congrArg Value.bool (by rw [incR_out (by omega)]; rfl), _, H⟩
    · try simp only [decide_eq_true_eq, decide_eq_false_iff_not, Bool.not_eq_true', Bool.not_eq_false', beq_iff_eq, beq_eq_false_iff_ne, bne_iff_ne, bne_eq_false_iff_eq, ne_eq, Int.not_lt, Int.not_le] at c2
      have hn1 : 1 ≤ n := by omega
      refine w_skip ?_
      refine w_seq ?_
      refine w_region ?_
      refine l_pint rfl rfl ?_
      refine l_pint rfl rfl ?_
      first | refine l_v rfl (q_subN (a := n) (b := 1) rfl rfl rfl ⟨by omega, by omega⟩) ?_ | refine l_pint rfl rfl ?_
      refine b_call rfl cb_30 rfl (within_ok x (n := n - 1) (by omega)) (fun v w hv => ?_)
      obtain ⟨q, hqn, rfl, rfl⟩ := hv
      first | refine l_v rfl (q_addI (a := 1) (b := q) rfl rfl rfl (by omega)) ?_ | refine l_pint rfl rfl ?_
      refine l_pint rfl rfl ?_
      refine l_nil ?_
      refine w_seq ?_
      refine w_region ?_
      refine l_pslice rfl rfl ?_
      refine l_pint rfl rfl ?_
      refine b_call rfl cb_31 rfl (Inclusion_in (p := 1 + q) H (hr.up 1 rfl) hl hc hok (by omega) (by omega) (by omega)) (fun v w hv => ?_)
      obtain ⟨a12, c12, rfl, H⟩ := hv
      have hpi : 1 + q - 1 < es.length := by omega
      obtain ⟨be, oe, hae, _⟩ := ent_cells (hr.use H 2 rfl) hpi
      have hincd := incd_law (es := es) (p := 1 + q) (by omega) (by omega) (List.getElem?_eq_getElem hpi)
      rw [hl] at hincd
      refine l_ptup rfl rfl ?_
      refine l_pslice rfl rfl ?_
      refine l_pint rfl rfl ?_
      refine l_pslice rfl rfl ?_
      refine l_pint rfl rfl ?_
      refine l_nil ?_
      refine w_seq ?_
      refine w_drawT [] [18] [(0, 0), (1, 0), (2, 0), (3, 0), (4, 0), (5, 0), (6, 2), (7, 0), (8, 0), (9, 0), (10, 0), (12, 0), (13, 0), (14, 0), (15, 0), (16, 0), (17, 0), (18, 1), (19, 0), (11, 2), (20, 2), (21, 0), (22, 0), (23, 0)] mixed (by kernel_rfl) (fun _ _ _ h => fin_panic h) H (fun H => ?_)
      refine r_pint rfl rfl rfl ?_
      refine r_pbool rfl rfl rfl ?_
      refine r_pbool rfl rfl rfl ?_
      refine r_split 73 rfl (fun h73 => ?_) (fun h73 => absurd h73 (by simp))
      try simp only [decide_eq_true_eq, decide_eq_false_iff_not, Bool.not_eq_true', Bool.not_eq_false', beq_iff_eq, beq_eq_false_iff_ne, bne_iff_ne, bne_eq_false_iff_eq, ne_eq, Int.not_lt, Int.not_le] at h73
      refine r_pslice rfl rfl rfl ?_
      refine r_w rfl rfl (fun w => q_lenSlice rfl el_42 rfl) ?_
      refine r_pint rfl rfl rfl ?_
      refine r_do rfl ?_
      refine b_call rfl cb_39 rfl (binary_ok (n := n) (by omega)) (fun v w hv => ?_)
      obtain ⟨bk2, rfl, hbk2, hbn2, rfl⟩ := hv
      have his := incl_short bk2 es (1 + q) (by omega) (by omega)
      refine l_nil ⟨fun _ _ => (by first | exact H | exact H.drop1 | exact H.drop1.drop1 | exact H.drop1.drop1.drop1), ?_⟩
      refine r_pbool rfl rfl rfl ?_
      refine r_pickT (v := .bool _) rfl rfl rfl rfl ?_
      refine r_pbool rfl rfl rfl ?_
      refine r_split 80 rfl (fun h80 => ?_) (fun h80 => absurd h80 (by simp; omega))
      try simp only [decide_eq_true_eq, decide_eq_false_iff_not, Bool.not_eq_true', Bool.not_eq_false', beq_iff_eq, beq_eq_false_iff_ne, bne_iff_ne, bne_eq_false_iff_eq, ne_eq, Int.not_lt, Int.not_le] at h80
      refine r_pslice rfl rfl rfl ?_
      refine r_pint rfl rfl rfl ?_
      refine r_pint rfl rfl rfl ?_
      refine r_pslice rfl rfl rfl ?_
      refine r_pint rfl rfl rfl ?_
      first | refine r_w rfl rfl (fun w => q_subN (a := 1 + q) (b := 1) rfl rfl rfl ⟨by omega, by omega⟩) ?_ | refine r_pint rfl rfl rfl ?_
      refine r_w rfl rfl (fun w => q_indexSliceE (1 + q - 1) rfl el_22 rfl hae rfl rfl (by omega)) ?_
      refine r_v rfl rfl (fun w hS => q_loadN (vs := es[1 + q - 1].cells) rfl ag_28 rfl rfl (ent_at2 hae (hr.use hS 2 rfl) hpi)) ?_
      refine r_pslice rfl rfl rfl ?_
      refine r_do rfl ?_
      refine b_call rfl cb_14 rfl (Head_ok n H (hr.up 2 rfl) hl hc hok rfl (by omega)) (fun v w hv => ?_)
      obtain ⟨rfl, H⟩ := hv
      refine l_nil ⟨fun _ _ => (by first | exact H | exact H.drop1 | exact H.drop1.drop1 | exact H.drop1.drop1.drop1), ?_⟩
      refine r_do rfl ?_
      refine b_call rfl cb_24 rfl (Included_ok H (headH_len _) (n : Int) ((1 + q : Nat) : Int) es[1 + q - 1] (hok _ (List.getElem_mem hpi)) (inclN_ok es (1 + q)).1 (RdIn.row 0 rfl) (by have := (inclN_ok es (1 + q)).2; omega) (by omega)) (fun v w hv => ?_)
      obtain ⟨rfl, H⟩ := hv
      refine l_nil ⟨fun _ _ => (by first | exact H | exact H.drop1 | exact H.drop1.drop1 | exact H.drop1.drop1.drop1), ?_⟩
      refine r_pbool rfl rfl rfl ?_
      refine r_pickT (v := .bool _) rfl rfl rfl rfl ?_
      refine r_pbool rfl rfl rfl ?_
      refine r_nil ?_
      refine w_ret ?_
      refine fin1 (v := .bool _) rfl ?_
      exact ⟨congrArg Value.bool (by rw [hincd]; rfl), _, H⟩

end Go.Proofs.Ytcmmhpkgjcepdaa
