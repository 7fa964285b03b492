/- The law TreeGrows answers true, of every script. -/
import Derived.Test.YtcmmhpkgjcepdaaTre36
namespace Go.Proofs.Ytcmmhpkgjcepdaa
open Go.EW
attribute [local irreducible] EW.W EW.L EW.fin block8 outB shaL
set_option linter.unusedVariables false
set_option linter.unusedSimpArgs false
attribute [local irreducible] swp headH leafH nodeH inclN sidesN bothN lenN splitN upN incdR extR incR conR unlikeN oneB metB hatT inclT conT askT

/-- a call of a tree -/
structure Opn where
  kd : Int
  e : Ent
  A : Int
  Bq : Int
def Opn.cells (x : Opn) : List Value := opV x.kd x.A x.Bq x.e
def opsV (xs : List Opn) : List Value := xs.flatMap Opn.cells
theorem opsV_len : ∀ xs : List Opn, (opsV xs).length = 8 * xs.length
  | [] => rfl
  | e :: es => by
    have := opsV_len es
    unfold opsV at this ⊢
    rw [List.flatMap_cons, List.length_append, this, List.length_cons]
    show 8 + _ = _
    omega
theorem opsV_drop (xs : List Opn) (k : Nat) : opsV (xs.drop k) = (opsV xs).drop (k * 8) := by
  by_cases hk : k ≤ xs.length
  · have e1 : opsV xs = opsV (xs.take k) ++ opsV (xs.drop k) := by rw [opsV, opsV, opsV, ← List.flatMap_append, List.take_append_drop]
    rw [e1, List.drop_left' (by rw [opsV_len, List.length_take]; omega)]
  · rw [List.drop_eq_nil_of_le (by omega), List.drop_eq_nil_of_le (by rw [opsV_len]; omega)]; rfl
theorem op_at {xs : List Opn} {i : Nat} (hi : i < xs.length) : ((opsV xs).drop (i * 8)).take 8 = xs[i].cells := by
  rw [← opsV_drop, List.drop_eq_getElem_cons hi]
  show (xs[i].cells ++ _).take 8 = _
  rfl
theorem op_cells {w : World} {a : Option Addr} {xs : List Opn} {i : Nat} (h : Rd w a (opsV xs)) (hi : i < xs.length) : ∃ b o, a = some ⟨b, o, none⟩ ∧ Cells w b (o + i * 8) xs[i].cells := by
  have hl := opsV_len xs
  obtain ⟨b, o, ha, _⟩ := h 0 ((opsV xs)[0]'(by omega)) (List.getElem?_eq_getElem (by omega))
  subst ha
  refine ⟨b, o, rfl, ?_⟩
  have := h.cells.sub (i * 8) 8
  rwa [op_at hi] at this
theorem op_at2 {w : World} {a : Option Addr} {b o i : Nat} {xs : List Opn} (ha : a = some ⟨b, o, none⟩) (h : Rd w a (opsV xs)) (hi : i < xs.length) : Cells w b (o + i * 8) xs[i].cells := by
  obtain ⟨b', o', h1, h2⟩ := op_cells h hi
  rw [ha] at h1; cases h1
  exact h2
def OpsOk (xs : List Opn) : Prop := ∀ x ∈ xs, x.e.va.size ≤ 140737488351232
theorem EntsOk.snoc {es : List Ent} (h : EntsOk es) {e : Ent} (he : e.va.size ≤ 140737488351232) : EntsOk (es ++ [e]) := fun x hx => by
  rcases List.mem_append.1 hx with hx | hx
  · exact h x hx
  · rw [List.mem_singleton.1 hx]; exact he
theorem q_quoI {P : Program} {w : World} {e : Operand → Value} {oo : Oper} {x y : Operand} {T T' : TypeId} {a b : Nat} (ho : oo.op = .binOp .quo T x y T') (hx : e x = .int .i64 (a : Int)) (hy : e y = .int .i64 (b : Int)) (h : b ≠ 0) (hs : a ≤ 9223372036854775807) : (execOp e oo).run P w = .ok (.value (.int .i64 ((a / b : Nat) : Int))) w := by
  have := q_quo (P := P) (w := w) (k := .i64) (a := (a : Int)) (b := (b : Int)) ho hx hy (by omega) (by rw [tdivN]; have h1 := Nat.div_le_self a b; obtain ⟨q, hq⟩ : ∃ q, q = a / b := ⟨_, rfl⟩; rw [← hq] at h1 ⊢; simp only [inK]; omega)
  rw [tdivN] at this; exact this
def ent0 : Ent := ⟨0, 0, 0, 0, ⟨#[]⟩⟩

set_option maxRecDepth 8000 in
set_option maxHeartbeats 1000000 in
theorem TreeGrows_ok {W w : World} {F : List Seg} (H : St W w F) {ax : Option Addr} {n cx : Nat} {xs : List Opn} (hr : RdIn W F ax (opsV xs)) (hl : xs.length = n) (hn : n ≤ 2000000000000) (hox : OpsOk xs) :
    Ok Try.prog 13 [.slice ax n cx].toArray w (fun r w' => r = .bool true ∧ ∃ S, St W w' S) := by
  refine enter (n := 69) (rs := #[.tmp 2]) Try.func13 rfl rfl rfl rfl ?_
  refine w_seq ?_
  refine w_region ?_
  refine l_pbool rfl rfl ?_
  refine l_nil ?_
  refine w_seq ?_
  refine w_region ?_
  refine b_call rfl cb_41 rfl (TNew_ok H) (fun v w hv => ?_)
  obtain ⟨b, rfl, H⟩ := hv
  have H : St W w (treeL b none 0 [] edge0 (row 28 5 none 0 ([] : List Ent).length (entsV []) :: F)) := (St.newRow (T := 28) (sz := 5) H).pick [1, 2, 0] (pre := [_, _, _]) rfl rfl
  refine l_pptr rfl rfl ?_
  refine l_nil ?_
  refine w_seq ?_
  refine w_seq ?_
  refine w_region ?_
  refine l_pptr rfl rfl ?_
  refine l_v rfl (q_eqlNilF rfl pt_68 rfl rfl) ?_
  refine l_nil ?_
  refine w_cond_f rfl ?_
  refine w_skip ?_
  refine w_seq ?_
  refine w_region ?_
  refine l_pslice rfl rfl ?_
  refine l_nil ?_
  refine w_seq ?_
  refine w_seq ?_
  refine w_region ?_
  refine l_pint rfl rfl ?_
  refine l_nil ?_
  refine w_block ?_
  refine w_loopG (G := Nat × List Ent × List (List UInt8) × Option Addr × Nat × Option Addr × Nat) [2, 4, 5, 9, 10, 11, 12, 13, 14, 15, 16, 17, 18, 19, 20, 21, 22, 23, 24, 25, 26, 27, 28, 29, 30, 31, 32, 33, 34, 35, 36, 37, 38, 39, 40, 41, 42, 43, 44, 45, 46] (fun ⟨i, es, E, a, c, la, lc⟩ => [(5, .int .i64 ((i : Nat) : Int)), (4, .slice la es.length lc)]) (fun m ⟨i, es, E, a, c, la, lc⟩ w => ((m + i = xs.length ∧ es.length ≤ i) ∧ EntsOk es ∧ EdgeOk E es) ∧ St W w (treeL b a c es E (row 28 5 la es.length lc (entsV es) :: F))) (fun _ => rfl) ?_ ?_
  · exact ⟨xs.length, (0, [], edge0, none, 0, none, 0), ⟨rfl, rfl, trivial⟩, ⟨⟨rfl, Nat.le_refl _⟩, (fun e he => absurd he (by simp)), edge_new⟩, H⟩
  · rintro m ⟨i, es, E, a, c, la, lc⟩ ρ1 w ⟨⟨⟨hmi, hei⟩, hok, he⟩, H⟩
    refine w_seq ?_
    refine w_seq ?_
    refine w_region ?_
    refine l_pint rfl rfl ?_
    refine l_pslice rfl rfl ?_
    refine l_v rfl (q_lenSlice rfl el_82 rfl) ?_
    refine l_pbool rfl rfl ?_
    refine l_nil ?_
    refine w_cond rfl (fun c1 => ?_) (fun c1 => ?_)
    · try simp only [decide_eq_true_eq, decide_eq_false_iff_not, Bool.not_eq_true', Bool.not_eq_false', beq_iff_eq, beq_eq_false_iff_ne, bne_iff_ne, bne_eq_false_iff_eq, ne_eq, Int.not_lt, Int.not_le] at c1
      have hi : i < xs.length := by omega
      obtain ⟨bx, ox, hax, _⟩ := op_cells (hr.use H 3 rfl) hi
      have hva := hox _ (List.getElem_mem hi)
      have hlc := (H.rowInv (i := 2) rfl).2.1
      refine w_skip ?_
      refine w_seq ?_
      refine w_block ?_
      refine w_seq ?_
      refine w_region ?_
      refine l_pslice rfl rfl ?_
      refine l_pint rfl rfl ?_
      refine l_v rfl (q_indexSliceE i rfl el_82 rfl hax rfl rfl (by omega)) ?_
      refine l_v rfl (q_fieldAddr rfl fo84_0 rfl) ?_
      refine l_v rfl (q_load1 rfl c1_3 rfl (v := .int .i64 xs[i].kd) ((op_at2 hax (hr.use H 3 rfl) hi).get 0 _ rfl)) ?_
      refine l_pbool rfl rfl ?_
      refine l_nil ?_
      refine w_cond rfl (fun c2 => ?_) (fun c2 => ?_)
      · try simp only [decide_eq_true_eq, decide_eq_false_iff_not, Bool.not_eq_true', Bool.not_eq_false', beq_iff_eq, beq_eq_false_iff_ne, bne_iff_ne, bne_eq_false_iff_eq, ne_eq, Int.not_lt, Int.not_le] at c2
        refine w_seq ?_
        refine w_region ?_
        refine l_pslice rfl rfl ?_
        refine l_pslice rfl rfl ?_
        refine l_pint rfl rfl ?_
        refine l_v rfl (q_indexSliceE i rfl el_82 rfl hax rfl rfl (by omega)) ?_
        refine l_v rfl (q_fieldAddr rfl fo84_1 rfl) ?_
        refine l_v rfl (q_loadN (vs := xs[i].e.cells) rfl ag_28 rfl rfl ((op_at2 hax (hr.use H 3 rfl) hi).sub 1 5)) ?_
        refine b_buildSlice (cs := xs[i].e.cells) rfl el_22 ze_28 rfl rfl (fill_ent _) H (fun b27 w H => ?_)
        refine b_append rfl el_22 ze_28 rfl rfl rfl H 3 rfl (ys := xs[i].e.cells) (Rd.mk (H.cells0 0 rfl)) rfl (by rw [← entsV_one]; exact oneE _) ⟨by omega, by simp only [maxLen]; omega⟩ (fun a28 c28 w H => ?_)
        have H : St W w (treeL b a c es E (row 28 5 a28 (es.length + 1) c28 (entsV es ++ xs[i].e.cells) :: F)) := H.erase 0
        refine l_pslice rfl rfl ?_
        refine l_nil ?_
        refine w_seq ?_
        refine w_region ?_
        refine l_pptr rfl rfl ?_
        refine l_pslice rfl rfl ?_
        refine l_pint rfl rfl ?_
        refine l_v rfl (q_indexSliceE i rfl el_82 rfl hax rfl rfl (by omega)) ?_
        refine l_v rfl (q_fieldAddr rfl fo84_1 rfl) ?_
        refine l_v rfl (q_loadN (vs := xs[i].e.cells) rfl ag_28 rfl rfl ((op_at2 hax (hr.use H 3 rfl) hi).sub 1 5)) ?_
        refine b_call rfl cb_42 rfl (TAdd_ok (F := row 28 5 a28 (es.length + 1) c28 (entsV es ++ xs[i].e.cells) :: F) H he (by omega) (by omega) xs[i].e hva) (fun v w hv => ?_)
        obtain ⟨rfl, a', c', E', he', H⟩ := hv
        refine l_pslice rfl rfl ?_
        refine l_v rfl (q_lenSlice rfl el_22 rfl) ?_
        refine l_pbool rfl rfl ?_
        refine l_nil ?_
        refine w_cond rfl (fun c3 => ?_) (fun c3 => ?_)
        · try simp only [decide_eq_true_eq, decide_eq_false_iff_not, Bool.not_eq_true', Bool.not_eq_false', beq_iff_eq, beq_eq_false_iff_ne, bne_iff_ne, bne_eq_false_iff_eq, ne_eq, Int.not_lt, Int.not_le] at c3
          exact absurd c3 (by simp)
        · try simp only [decide_eq_true_eq, decide_eq_false_iff_not, Bool.not_eq_true', Bool.not_eq_false', beq_iff_eq, beq_eq_false_iff_ne, bne_iff_ne, bne_eq_false_iff_eq, ne_eq, Int.not_lt, Int.not_le] at c3
          refine w_skip ?_
          refine w_region ?_
          refine l_pint rfl rfl ?_
          first | refine l_v rfl (q_add rfl rfl rfl (by simp only [inK]; omega)) ?_ | refine l_pint rfl rfl ?_
          refine l_pint rfl rfl ?_
          refine l_nil ?_
          refine ⟨by repeat' first | exact Agr.mix _ _ _ | exact Agr.refl _ _ | refine Agr.inner rfl ?_ | refine Agr.upd rfl ?_ | refine Agr.updL' rfl ?_, ?_⟩
          refine ⟨m - 1, (i + 1, es ++ [xs[i].e], E', a', c', a28, c28), by omega, ⟨by exact congrArg (Value.int IntKind.i64) (Int.natCast_succ i).symm, congrArg (fun x => Value.slice a28 x c28) (by rw [List.length_append]; rfl), trivial⟩, ⟨⟨by omega, by rw [List.length_append, List.length_singleton]; omega⟩, hok.snoc hva, he'⟩, ?_⟩
          rw [show (es ++ [xs[i].e]).length = es.length + 1 by simp, entsV_append, entsV_one]
          exact H
      · try simp only [decide_eq_true_eq, decide_eq_false_iff_not, Bool.not_eq_true', Bool.not_eq_false', beq_iff_eq, beq_eq_false_iff_ne, bne_iff_ne, bne_eq_false_iff_eq, ne_eq, Int.not_lt, Int.not_le] at c2
        refine w_seq ?_
        refine w_region ?_
        refine l_pptr rfl rfl ?_
        refine l_pslice rfl rfl ?_
        refine l_pslice rfl rfl ?_
        refine l_pint rfl rfl ?_
        refine l_v rfl (q_indexSliceE i rfl el_82 rfl hax rfl rfl (by omega)) ?_
        refine l_v rfl (q_loadN (vs := xs[i].cells) rfl ag_84 rfl rfl (op_at2 hax (hr.use H 3 rfl) hi)) ?_
        refine b_call rfl cb_49 rfl (does_ok (F := row 28 5 la es.length lc (entsV es) :: F) H he (by omega) hok (RdIn.row 0 rfl) hlc xs[i].kd xs[i].A xs[i].Bq xs[i].e) (fun v w hv => ?_)
        obtain ⟨rfl, H⟩ := hv
        refine l_pbool rfl rfl ?_
        refine l_nil ?_
        refine w_cond_f rfl ?_
        refine w_skip ?_
        refine w_region ?_
        refine l_pint rfl rfl ?_
        first | refine l_v rfl (q_add rfl rfl rfl (by simp only [inK]; omega)) ?_ | refine l_pint rfl rfl ?_
        refine l_pint rfl rfl ?_
        refine l_nil ?_
        refine ⟨by repeat' first | exact Agr.mix _ _ _ | exact Agr.refl _ _ | refine Agr.inner rfl ?_ | refine Agr.upd rfl ?_ | refine Agr.updL' rfl ?_, ?_⟩
        exact ⟨m - 1, (i + 1, es, E, a, c, la, lc), by omega, ⟨by exact congrArg (Value.int IntKind.i64) (Int.natCast_succ i).symm, rfl, trivial⟩, ⟨⟨by omega, by omega⟩, hok, he⟩, H⟩
    · try simp only [decide_eq_true_eq, decide_eq_false_iff_not, Bool.not_eq_true', Bool.not_eq_false', beq_iff_eq, beq_eq_false_iff_ne, bne_iff_ne, bne_eq_false_iff_eq, ne_eq, Int.not_lt, Int.not_le] at c1
      have hlc := (H.rowInv (i := 2) rfl).2.1
      refine w_exit ?_
      refine w_seq ?_
      refine w_region ?_
      refine l_pptr rfl rfl ?_
      refine l_pslice rfl rfl ?_
      refine l_v rfl (q_build (cs := opV 1 0 0 ent0) rfl sp_84 rfl) ?_
      refine b_call rfl cb_49 rfl (does_ok (F := row 28 5 la es.length lc (entsV es) :: F) H he (by omega) hok (RdIn.row 0 rfl) hlc 1 0 0 ent0) (fun v w hv => ?_)
      obtain ⟨rfl, H⟩ := hv
      refine l_pbool rfl rfl ?_
      refine l_split 51 rfl (fun h51 => ?_) (fun h51 => absurd h51 (by simp))
      try simp only [decide_eq_true_eq, decide_eq_false_iff_not, Bool.not_eq_true', Bool.not_eq_false', beq_iff_eq, beq_eq_false_iff_ne, bne_iff_ne, bne_eq_false_iff_eq, ne_eq, Int.not_lt, Int.not_le] at h51
      refine l_pptr rfl rfl ?_
      refine l_pslice rfl rfl ?_
      refine l_v rfl (q_build (cs := opV 2 0 0 ent0) rfl sp_84 rfl) ?_
      refine b_call rfl cb_49 rfl (does_ok (F := row 28 5 la es.length lc (entsV es) :: F) H he (by omega) hok (RdIn.row 0 rfl) hlc 2 0 0 ent0) (fun v w hv => ?_)
      obtain ⟨rfl, H⟩ := hv
      refine l_pickT (v := .bool _) rfl rfl rfl ?_
      refine l_pbool rfl rfl ?_
      refine l_split 57 rfl (fun h57 => ?_) (fun h57 => absurd h57 (by simp))
      try simp only [decide_eq_true_eq, decide_eq_false_iff_not, Bool.not_eq_true', Bool.not_eq_false', beq_iff_eq, beq_eq_false_iff_ne, bne_iff_ne, bne_eq_false_iff_eq, ne_eq, Int.not_lt, Int.not_le] at h57
      refine l_pptr rfl rfl ?_
      refine l_pslice rfl rfl ?_
      refine l_pslice rfl rfl ?_
      refine l_v rfl (q_lenSlice rfl el_22 rfl) ?_
      refine l_v rfl (q_quoI (a := es.length) (b := 2) rfl rfl rfl (by omega) (by omega)) ?_
      refine l_v rfl (q_build (cs := opV 3 ((es.length / 2 : Nat) : Int) 0 ent0) rfl sp_84 rfl) ?_
      refine b_call rfl cb_49 rfl (does_ok (F := row 28 5 la es.length lc (entsV es) :: F) H he (by omega) hok (RdIn.row 0 rfl) hlc 3 ((es.length / 2 : Nat) : Int) 0 ent0) (fun v w hv => ?_)
      obtain ⟨rfl, H⟩ := hv
      refine l_pickT (v := .bool _) rfl rfl rfl ?_
      refine l_pbool rfl rfl ?_
      refine l_split 66 rfl (fun h66 => ?_) (fun h66 => absurd h66 (by simp))
      try simp only [decide_eq_true_eq, decide_eq_false_iff_not, Bool.not_eq_true', Bool.not_eq_false', beq_iff_eq, beq_eq_false_iff_ne, bne_iff_ne, bne_eq_false_iff_eq, ne_eq, Int.not_lt, Int.not_le] at h66
      refine b_call rfl cb_22 rfl (works_ok H) (fun v w hv => ?_)
      obtain ⟨rfl, H⟩ := hv
      refine l_pickT (v := .bool _) rfl rfl rfl ?_
      refine l_pbool rfl rfl ?_
      refine l_nil ?_
      refine w_ret ?_
      refine fin1 (v := .bool _) rfl ?_
      exact ⟨rfl, _, H⟩

end Go.Proofs.Ytcmmhpkgjcepdaa
