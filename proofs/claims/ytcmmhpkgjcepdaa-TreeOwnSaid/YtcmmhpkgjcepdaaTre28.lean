/- The law TreeBinds answers true, of every log, every saying and every hash. -/
import Derived.Test.YtcmmhpkgjcepdaaTre27
namespace Go.Proofs.Ytcmmhpkgjcepdaa
open Go.EW
attribute [local irreducible] EW.W EW.L EW.fin block8 outB shaL
set_option linter.unusedVariables false
set_option linter.unusedSimpArgs false
attribute [local irreducible] swp headH leafH nodeH inclN sidesN bothN lenN splitN upN incdR extR pathV incR

theorem incd_zero {hd : List UInt8} {n p : Nat} {e : Ent} {path : List (List UInt8)} (h : incdR hd (n : Int) (p : Int) e path = 0) : path.length = (sidesN n p).length ∧ upN (sidesN n p) path (leafH e) path.length = hd := by
  unfold incdR at h
  rw [Int.toNat_natCast, Int.toNat_natCast] at h
  split at h
  · exact absurd h (by decide)
  · split at h
    · exact absurd h (by decide)
    · split at h
      · exact absurd h (by decide)
      · split at h
        · exact absurd h (by decide)
        · rename_i h1 h2
          exact ⟨by omega, by simpa using h2⟩
theorem path_set {p : List (List UInt8)} {h : List UInt8} (hp : PathOk p) (hh : h.length = 32) {j : Nat} (hj : j < p.length) : putL (pathV p) (0 + j * 32) (h.map B) = pathV (p.set j h) := by
  have hl := pathV_len p hp
  rw [putL_eq _ _ _ (by rw [List.length_map, hh, hl]; omega), List.length_map, hh, Nat.zero_add, show j * 32 + 32 = (j + 1) * 32 by omega, ← pathV_take hp, ← pathV_drop hp, List.set_eq_take_append_cons_drop, if_pos hj, pathV_append, show h :: p.drop (j + 1) = [h] ++ p.drop (j + 1) from rfl, pathV_append, pathV_one, List.append_assoc]
theorem PathOk.set {p : List (List UInt8)} {h : List UInt8} (hp : PathOk p) (hh : h.length = 32) (j : Nat) : PathOk (p.set j h) := fun x hx => by
  rcases List.mem_or_eq_of_mem_set hx with hx | rfl
  · exact hp x hx
  · exact hh
theorem q_eqlEnt {e : Operand → Value} {oo : Oper} {x y : Operand} {T' : TypeId} {a b : Ent} {w : World} (ho : oo.op = .binOp .eql 28 x y T') (hx : e x = .agg a.cells.toArray) (hy : e y = .agg b.cells.toArray) :
    (execOp e oo).run Try.prog w = .ok (.value (.bool (entEq a b))) w := q_eqlAgg ho flatEnt (mkEnt _) (mkEnt _) gdEnt hx hy (ent_fit a) (ent_fit b)
def saidV (pl at_ : Int) (e : Ent) (pa : Option Addr) (pn pc : Nat) : List Value := [.int .i64 pl, .int .i64 e.cl, .int .i64 e.nu, .int .i64 e.ki, .int .i64 e.sl, .string e.va, .slice pa pn pc, .int .i64 at_]
theorem ent_eq {es : List Ent} {i : Nat} {e : Ent} (hi : i < es.length) (h : es[i]? ≠ some e) : e ≠ es[i] := by
  rintro rfl
  exact h (List.getElem?_eq_getElem hi)
theorem ent_ne {es : List Ent} {i : Nat} {e : Ent} (hi : i < es.length) (h : e ≠ es[i]) : es[i]? ≠ some e := by
  rw [List.getElem?_eq_getElem hi]
  intro hc
  exact h (Option.some.inj hc).symm

set_option maxRecDepth 8000 in
set_option maxHeartbeats 400000 in
theorem TreeBinds_ok {W w : World} {F : List Seg} (H : St W w F) {aa : Option Addr} {m1 cp1 : Nat} {e1 : List Ent} (hr1 : RdIn W F aa (entsV e1)) (hl1 : e1.length = m1) (hc1 : m1 ≤ cp1) (hb1 : m1 ≤ 140737488355328) (ho1 : EntsOk e1) (pl at_ : Int) {e : Ent} (hva : e.va.size ≤ 140737488351232) {pa : Option Addr} {pc : Nat} {path : List (List UInt8)} (hpo : PathOk path) (hpr : RdIn W F pa (pathV path)) (hpc : path.length ≤ pc) (hpb : path.length ≤ 4398046511000) {h : List UInt8} (hh : h.length = 32) :
    Ok Try.prog 6 [.slice aa m1 cp1, .agg (saidV pl at_ e pa path.length pc).toArray, .agg (h.map B).toArray].toArray w (fun r w' => r = .bool true ∧ ∃ S, St W w' S) := by
  refine enter (n := 131) (rs := #[.tmp 6]) Try.func6 rfl rfl rfl rfl ?_
  refine w_seq ?_
  refine w_region ?_
  refine b_box rfl rfl rfl H (fun b4 w H => ?_)
  refine b_box rfl rfl rfl H (fun b5 w H => ?_)
  refine l_pbool rfl rfl ?_
  refine l_nil ?_
  refine w_seq ?_
  refine w_region ?_
  refine l_pslice rfl rfl ?_
  refine b_call rfl cb_29 rfl (few_ok hr1 hl1 hc1 hb1) (fun v w hv => ?_)
  obtain ⟨n, a1, rfl, hr, hl, hc, h200, _, rfl⟩ := hv
  obtain ⟨es, hes⟩ : ∃ es, es = (e1.take 200) := ⟨_, rfl⟩
  rw [← hes] at hr hl
  have hok : EntsOk es := by rw [hes]; exact ho1.take _
  refine l_pslice rfl rfl ?_
  refine l_nil ?_
  refine w_seq ?_
  refine w_region ?_
  refine l_v rfl (q_fieldAddr rfl fo53_1 rfl) ?_
  refine l_v rfl (q_loadN (vs := e.cells) rfl ag_28 rfl rfl ((H.cells 1 rfl).sub 1 5)) ?_
  refine b_alloc rfl ze_28 rfl H (fun b7 w H => ?_)
  refine b_store (vs := e.cells) rfl sz_28 rfl rfl rfl rfl rfl H 0 rfl rfl (putL_all rfl) (fun w H => ?_)
  refine l_nil ?_
  refine w_seq ?_
  refine w_region ?_
  refine l_v rfl (q_fieldAddr rfl fo53_2 rfl) ?_
  refine l_v rfl (q_load1 rfl c1_42 rfl (H.cell 2 rfl rfl)) ?_
  refine l_pslice rfl rfl ?_
  refine l_nil ?_
  refine w_seq ?_
  refine w_seq ?_
  refine w_region ?_
  refine l_pslice rfl rfl ?_
  refine l_v rfl (q_lenSlice rfl el_22 rfl) ?_
  refine l_pbool rfl rfl ?_
  refine l_pbool rfl rfl ?_
  refine l_split 27 rfl (fun h27 => ?_) (fun h27 => ?_)
  · try simp only [decide_eq_true_eq, decide_eq_false_iff_not, Bool.not_eq_true', Bool.not_eq_false', beq_iff_eq, beq_eq_false_iff_ne, bne_iff_ne, bne_eq_false_iff_eq, ne_eq, Int.not_lt, Int.not_le] at h27
    refine l_no rfl ?_
    refine l_no rfl ?_
    refine l_pickT (v := .bool _) rfl rfl rfl ?_
    refine l_nil ?_
    refine w_cond_t rfl ?_
    refine w_seq ?_
    refine w_region ?_
    refine b_call rfl cb_22 rfl (works_ok H) (fun v w hv => ?_)
    obtain ⟨rfl, H⟩ := hv
    refine l_pbool rfl rfl ?_
    refine l_nil ?_
    refine w_ret ?_
    refine fin1 (v := .bool _) rfl ?_
    exact ⟨rfl, _, H⟩
  · try simp only [decide_eq_true_eq, decide_eq_false_iff_not, Bool.not_eq_true', Bool.not_eq_false', beq_iff_eq, beq_eq_false_iff_ne, bne_iff_ne, bne_eq_false_iff_eq, ne_eq, Int.not_lt, Int.not_le] at h27
    refine b_call rfl cb_22 rfl (works_ok H) (fun v w hv => ?_)
    obtain ⟨rfl, H⟩ := hv
    refine l_pbool rfl rfl ?_
    refine l_pickF (v := .bool _) rfl rfl rfl ?_
    refine l_nil ?_
    refine w_cond rfl (fun c1 => ?_) (fun c1 => ?_)
    · try simp only [decide_eq_true_eq, decide_eq_false_iff_not, Bool.not_eq_true', Bool.not_eq_false', beq_iff_eq, beq_eq_false_iff_ne, bne_iff_ne, bne_eq_false_iff_eq, ne_eq, Int.not_lt, Int.not_le] at c1
      exact absurd c1 (by simp)
    · try simp only [decide_eq_true_eq, decide_eq_false_iff_not, Bool.not_eq_true', Bool.not_eq_false', beq_iff_eq, beq_eq_false_iff_ne, bne_iff_ne, bne_eq_false_iff_eq, ne_eq, Int.not_lt, Int.not_le] at c1
      have hn1 : 1 ≤ n := by omega
      refine w_skip ?_
      refine w_seq ?_
      refine w_region ?_
      refine l_v rfl (q_fieldAddr rfl fo53_0 rfl) ?_
      refine l_v rfl (q_load1 rfl c1_3 rfl (H.cell 2 rfl rfl)) ?_
      refine l_pslice rfl rfl ?_
      refine l_v rfl (q_lenSlice rfl el_22 rfl) ?_
      first | refine l_v rfl (q_subN (a := n) (b := 1) rfl rfl rfl ⟨by omega, by omega⟩) ?_ | refine l_pint rfl rfl ?_
      refine b_call rfl cb_30 rfl (within_ok pl (n := n - 1) (by omega)) (fun v w hv => ?_)
      obtain ⟨q, hqn, rfl, rfl⟩ := hv
      first | refine l_v rfl (q_addI (a := 1) (b := q) rfl rfl rfl (by omega)) ?_ | refine l_pint rfl rfl ?_
      refine l_pint rfl rfl ?_
      refine l_nil ?_
      refine w_seq ?_
      refine w_region ?_
      refine l_pslice rfl rfl ?_
      refine b_call rfl cb_14 rfl (Head_ok n H (hr.up 3 rfl) hl hc hok rfl (by omega)) (fun v w hv => ?_)
      obtain ⟨rfl, H⟩ := hv
      refine b_alloc rfl ze_24 rfl H (fun b10 w H => ?_)
      refine b_store (vs := (headH es).map B) rfl sz_24 rfl rfl rfl (by simp [headH_len]) (all1 _) H 0 rfl (by simp [z32, headH_len]) (putL_all (by simp [z32, headH_len])) (fun w H => ?_)
      refine l_nil ?_
      refine w_seq ?_
      refine w_region ?_
      refine l_pslice rfl rfl ?_
      refine l_pint rfl rfl ?_
      refine b_call rfl cb_31 rfl (Inclusion_in (p := (1 + q)) H (hr.up 4 rfl) hl hc hok (by omega) (by omega) (by omega)) (fun v w hv => ?_)
      obtain ⟨a11, c11, rfl, H⟩ := hv
      have hm := inclN_ok es (1 + q)
      have hm2 := hm.2
      have hpi : (1 + q) - 1 < es.length := by omega
      have hc11 := (H.rowInv (i := 0) rfl).2.1
      obtain ⟨be, oe, hae, _⟩ := ent_cells (hr.use H 5 rfl) hpi
      refine l_ptup rfl rfl ?_
      refine l_pslice rfl rfl ?_
      refine l_pint rfl rfl ?_
      refine l_pslice rfl rfl ?_
      refine l_pint rfl rfl ?_
      refine l_nil ?_
      refine w_seq ?_
      refine w_seq ?_
      refine w_region ?_
      refine l_pint rfl rfl ?_
      refine l_pbool rfl rfl ?_
      refine l_nil ?_
      refine w_cond_f rfl ?_
      refine w_skip ?_
      refine w_cutG (G := Option Addr × Nat × List (List UInt8)) [8, 49, 50, 51, 52, 53, 54, 55, 56, 57] (fun ⟨pa', pc', pth⟩ => [(8, .slice pa' pth.length pc')]) (fun ⟨pa', pc', pth⟩ w => (PathOk pth ∧ pth.length ≤ pc' ∧ pth.length ≤ 4398046511000 ∧ RdIn W (row 24 32 a11 (inclN es (1 + q)).length c11 (pathV (inclN es (1 + q))) :: blk b10 ((headH es).map B) 24 :: blk b7 e.cells 28 :: blk b5 (h.map B) 24 :: blk b4 (saidV pl at_ e pa path.length pc) 53 :: F) pa' (pathV pth)) ∧ St W w (row 24 32 a11 (inclN es (1 + q)).length c11 (pathV (inclN es (1 + q))) :: blk b10 ((headH es).map B) 24 :: blk b7 e.cells 28 :: blk b5 (h.map B) 24 :: blk b4 (saidV pl at_ e pa path.length pc) 53 :: F)) (fun _ => rfl) ?_ ?_
      · refine w_seq ?_
        refine w_region ?_
        refine l_pslice rfl rfl ?_
        refine l_v rfl (q_lenSlice rfl el_42 rfl) ?_
        refine l_pbool rfl rfl ?_
        refine l_pbool rfl rfl ?_
        refine l_split 52 rfl (fun h52 => ?_) (fun h52 => ?_)
        · try simp only [decide_eq_true_eq, decide_eq_false_iff_not, Bool.not_eq_true', Bool.not_eq_false', beq_iff_eq, beq_eq_false_iff_ne, bne_iff_ne, bne_eq_false_iff_eq, ne_eq, Int.not_lt, Int.not_le] at h52
          refine l_pslice rfl rfl ?_
          refine l_v rfl (q_lenSlice rfl el_42 rfl) ?_
          refine l_pbool rfl rfl ?_
          refine l_pickT (v := .bool _) rfl rfl rfl ?_
          refine l_nil ?_
          refine w_cond rfl (fun c2 => ?_) (fun c2 => ?_)
          · try simp only [decide_eq_true_eq, decide_eq_false_iff_not, Bool.not_eq_true', Bool.not_eq_false', beq_iff_eq, beq_eq_false_iff_ne, bne_iff_ne, bne_eq_false_iff_eq, ne_eq, Int.not_lt, Int.not_le] at c2
            refine w_region ?_
            refine l_pslice rfl rfl ?_
            refine l_pslice rfl rfl ?_
            refine l_nil ?_
            refine ⟨by repeat' first | exact Agr.mix _ _ _ | exact Agr.refl _ _ | refine Agr.inner rfl ?_ | refine Agr.upd rfl ?_ | refine Agr.updL' rfl ?_, ?_⟩
            exact ⟨(a11, c11, inclN es (1 + q)), ⟨rfl, trivial⟩, ⟨hm.1, hc11, by omega, RdIn.row 0 rfl⟩, H⟩
          · try simp only [decide_eq_true_eq, decide_eq_false_iff_not, Bool.not_eq_true', Bool.not_eq_false', beq_iff_eq, beq_eq_false_iff_ne, bne_iff_ne, bne_eq_false_iff_eq, ne_eq, Int.not_lt, Int.not_le] at c2
            refine w_skip ?_
            refine ⟨by repeat' first | exact Agr.mix _ _ _ | exact Agr.refl _ _ | refine Agr.inner rfl ?_ | refine Agr.upd rfl ?_ | refine Agr.updL' rfl ?_, ?_⟩
            exact ⟨(pa, pc, path), ⟨rfl, trivial⟩, ⟨hpo, hpc, hpb, hpr.up 5 rfl⟩, H⟩
        · try simp only [decide_eq_true_eq, decide_eq_false_iff_not, Bool.not_eq_true', Bool.not_eq_false', beq_iff_eq, beq_eq_false_iff_ne, bne_iff_ne, bne_eq_false_iff_eq, ne_eq, Int.not_lt, Int.not_le] at h52
          refine l_no rfl ?_
          refine l_no rfl ?_
          refine l_no rfl ?_
          refine l_pickF (v := .bool _) rfl rfl rfl ?_
          refine l_nil ?_
          refine w_cond_f rfl ?_
          refine w_skip ?_
          refine ⟨by repeat' first | exact Agr.mix _ _ _ | exact Agr.refl _ _ | refine Agr.inner rfl ?_ | refine Agr.upd rfl ?_ | refine Agr.updL' rfl ?_, ?_⟩
          exact ⟨(pa, pc, path), ⟨rfl, trivial⟩, ⟨hpo, hpc, hpb, hpr.up 5 rfl⟩, H⟩
      · rintro ⟨pa', pc', pth⟩ ρ1 w ⟨⟨hpp, hppc, hppb, hpr2⟩, H⟩
        refine w_seq ?_
        refine w_region ?_
        refine l_pslice rfl rfl ?_
        refine l_nil ?_
        refine w_seq ?_
        refine w_region ?_
        refine l_pslice rfl rfl ?_
        refine l_pslice rfl rfl ?_
        have H := St.newRow (T := 24) (sz := 32) H
        refine b_append rfl el_42 ze_24 rfl rfl rfl H 0 rfl (ys := pathV (inclN es (1 + q))) ((H.rowInv (i := 1) rfl).2.2.2.2) (by rw [pathV_len _ hm.1]; omega) (oneP _) ⟨by omega, by simp only [maxLen]; omega⟩ (fun a60 c60 w H => ?_)
        have H : St W w (row 24 32 a60 (0 + (inclN es (1 + q)).length) c60 (pathV (inclN es (1 + q))) :: row 24 32 a11 (inclN es (1 + q)).length c11 (pathV (inclN es (1 + q))) :: blk b10 ((headH es).map B) 24 :: blk b7 e.cells 28 :: blk b5 (h.map B) 24 :: blk b4 (saidV pl at_ e pa path.length pc) 53 :: F) := H
        refine l_pslice rfl rfl ?_
        refine l_nil ?_
        refine w_cutG (G := List (List UInt8)) [13, 61, 62, 63, 64, 65, 66, 67, 68, 69, 70, 71, 72] (fun oth => [(13, .slice a60 oth.length c60)]) (fun oth w => (PathOk oth ∧ (inclN es (1 + q)).length = oth.length) ∧ St W w (row 24 32 a60 oth.length c60 (pathV oth) :: row 24 32 a11 (inclN es (1 + q)).length c11 (pathV (inclN es (1 + q))) :: blk b10 ((headH es).map B) 24 :: blk b7 e.cells 28 :: blk b5 (h.map B) 24 :: blk b4 (saidV pl at_ e pa path.length pc) 53 :: F)) (fun _ => rfl) ?_ ?_
        · refine w_seq ?_
          refine w_region ?_
          refine l_pslice rfl rfl ?_
          refine l_v rfl (q_lenSlice rfl el_42 rfl) ?_
          refine l_pbool rfl rfl ?_
          refine l_nil ?_
          refine w_cond rfl (fun c3 => ?_) (fun c3 => ?_)
          · try simp only [decide_eq_true_eq, decide_eq_false_iff_not, Bool.not_eq_true', Bool.not_eq_false', beq_iff_eq, beq_eq_false_iff_ne, bne_iff_ne, bne_eq_false_iff_eq, ne_eq, Int.not_lt, Int.not_le] at c3
            obtain ⟨bo, hbo, _⟩ := row_addr (k := 0) H (i := 0) rfl (List.getElem?_eq_getElem (by rw [pathV_len _ hm.1]; omega))
            refine w_drawT [9] [2, 7] [(0, 0), (1, 0), (2, 1), (3, 0), (4, 0), (5, 0), (7, 1), (6, 2), (8, 0), (9, 2)] mixed (by kernel_rfl) (fun _ _ _ h => fin_panic h) H (fun H => ?_)
            refine r_pslice rfl rfl rfl ?_
            refine r_w rfl rfl (fun w => q_fieldAddr rfl fo53_3 rfl) ?_
            refine r_v rfl rfl (fun w hS => q_load1 rfl c1_3 rfl (v := .int .i64 at_) (hS.cell 5 rfl rfl)) ?_
            refine r_pslice rfl rfl rfl ?_
            refine r_w rfl rfl (fun w => q_lenSlice rfl el_42 rfl) ?_
            first | refine r_w rfl rfl (fun w => q_subN (a := 0 + (inclN es (1 + q)).length) (b := 1) rfl rfl rfl ⟨by omega, by omega⟩) ?_ | refine r_pint rfl rfl rfl ?_
            refine r_v rfl rfl (fun w hS => q_loadN (vs := h.map B) rfl ag_24 rfl (by simp [hh]) (hS.cells 4 rfl)) ?_
            refine r_do rfl ?_
            refine b_call rfl cb_30 rfl (within_ok at_ (n := 0 + (inclN es (1 + q)).length - 1) (by omega)) (fun v w hv => ?_)
            obtain ⟨j, hjn, rfl, rfl⟩ := hv
            refine l_nil ⟨fun _ _ => (by first | exact H | exact H.drop1 | exact H.drop1.drop1 | exact H.drop1.drop1.drop1), ?_⟩
            refine r_w rfl rfl (fun w => q_indexSliceE j rfl el_42 rfl hbo rfl rfl (by omega)) ?_
            refine r_do rfl ?_
            refine b_storeRow (vs := h.map B) (k := 0 + j * 32) rfl sz_24 rfl rfl rfl (by simp [hh]) (all1 _) H 0 rfl hbo (by rw [pathV_len _ hm.1, List.length_map, hh]; omega) (path_set hm.1 hh (by omega)) (fun w H => ?_)
            refine l_nil ⟨(fun h => nomatch h), ?_⟩
            refine r_nil ?_
            refine ⟨by repeat' first | exact Agr.mix _ _ _ | exact Agr.refl _ _ | refine Agr.inner rfl ?_ | refine Agr.upd rfl ?_ | refine Agr.updL' rfl ?_, ?_⟩
            have e : 0 + (inclN es (1 + q)).length = ((inclN es (1 + q)).set j h).length := by simp
            refine ⟨(inclN es (1 + q)).set j h, ⟨congrArg (fun x => Value.slice a60 x c60) e, trivial⟩, ⟨hm.1.set hh j, by simp⟩, ?_⟩
            rw [← e]
            exact H
          · try simp only [decide_eq_true_eq, decide_eq_false_iff_not, Bool.not_eq_true', Bool.not_eq_false', beq_iff_eq, beq_eq_false_iff_ne, bne_iff_ne, bne_eq_false_iff_eq, ne_eq, Int.not_lt, Int.not_le] at c3
            refine w_skip ?_
            refine ⟨by repeat' first | exact Agr.mix _ _ _ | exact Agr.refl _ _ | refine Agr.inner rfl ?_ | refine Agr.upd rfl ?_ | refine Agr.updL' rfl ?_, ?_⟩
            have e : 0 + (inclN es (1 + q)).length = (inclN es (1 + q)).length := Nat.zero_add _
            refine ⟨inclN es (1 + q), ⟨congrArg (fun x => Value.slice a60 x c60) e, trivial⟩, ⟨hm.1, rfl⟩, ?_⟩
            rw [e] at H
            exact H
        · rintro oth ρ1 w ⟨⟨hoo, hol⟩, H⟩
          have hc60 := (H.rowInv (i := 0) rfl).2.1
          refine w_cutG (G := Unit) [6, 14, 15, 73, 74, 75, 76, 77, 78, 79, 80, 81, 82, 83, 84, 85, 86, 87, 88, 89, 90, 91, 92, 93, 94, 95, 96, 97, 98, 99, 100, 101, 102, 103, 104] (fun _ => []) (fun _ w => St W w (row 24 32 a60 oth.length c60 (pathV oth) :: row 24 32 a11 (inclN es (1 + q)).length c11 (pathV (inclN es (1 + q))) :: blk b10 ((headH es).map B) 24 :: blk b7 e.cells 28 :: blk b5 (h.map B) 24 :: blk b4 (saidV pl at_ e pa path.length pc) 53 :: F)) (fun _ => rfl) ?_ ?_
          · refine w_seq ?_
            refine w_drawT [] [0, 8] [(0, 1), (1, 0), (2, 0), (3, 0), (4, 0), (5, 0), (6, 0), (7, 0), (8, 1), (9, 0), (10, 2), (11, 0), (12, 0), (13, 0), (14, 0), (15, 2), (16, 0), (17, 0)] mixed (by kernel_rfl) (fun _ _ _ h => fin_panic h) H (fun H => ?_)
            refine r_v rfl rfl (fun w hS => q_loadN (vs := (headH es).map B) rfl ag_24 rfl (by simp [headH_len]) (hS.cells 2 rfl)) ?_
            refine r_pslice rfl rfl rfl ?_
            refine r_w rfl rfl (fun w => q_lenSlice rfl el_22 rfl) ?_
            refine r_pint rfl rfl rfl ?_
            refine r_pslice rfl rfl rfl ?_
            refine r_pint rfl rfl rfl ?_
            first | refine r_w rfl rfl (fun w => q_subN (a := (1 + q)) (b := 1) rfl rfl rfl ⟨by omega, by omega⟩) ?_ | refine r_pint rfl rfl rfl ?_
            refine r_w rfl rfl (fun w => q_indexSliceE ((1 + q) - 1) rfl el_22 rfl hae rfl rfl (by omega)) ?_
            refine r_v rfl rfl (fun w hS => q_loadN (vs := es[(1 + q) - 1].cells) rfl ag_28 rfl rfl (ent_at2 hae (hr.use hS 6 rfl) hpi)) ?_
            refine r_pslice rfl rfl rfl ?_
            refine r_do rfl ?_
            refine b_call rfl cb_24 rfl (Included_ok (path := oth) H (headH_len _) (n : Int) (((1 + q) : Nat) : Int) es[(1 + q) - 1] (hok _ (List.getElem_mem hpi)) hoo (RdIn.row 0 rfl) (by omega) (by omega)) (fun v w hv => ?_)
            obtain ⟨rfl, H⟩ := hv
            refine l_nil ⟨fun _ _ => (by first | exact H | exact H.drop1 | exact H.drop1.drop1 | exact H.drop1.drop1.drop1), ?_⟩
            refine r_pbool rfl rfl rfl ?_
            refine r_pbool rfl rfl rfl ?_
            refine r_split 85 rfl (fun h85 => ?_) (fun h85 => ?_)
            · try simp only [decide_eq_true_eq, decide_eq_false_iff_not, Bool.not_eq_true', Bool.not_eq_false', beq_iff_eq, beq_eq_false_iff_ne, bne_iff_ne, bne_eq_false_iff_eq, ne_eq, Int.not_lt, Int.not_le] at h85
              refine r_pslice rfl rfl rfl ?_
              refine r_pslice rfl rfl rfl ?_
              refine r_do rfl ?_
              refine b_call rfl cb_32 rfl (same_ok (p := oth) (q := inclN es (1 + q)) H hoo hm.1 (RdIn.row 0 rfl) (RdIn.row 1 rfl) (by omega)) (fun v w hv => ?_)
              obtain ⟨rfl, H⟩ := hv
              refine l_nil ⟨fun _ _ => (by first | exact H | exact H.drop1 | exact H.drop1.drop1 | exact H.drop1.drop1.drop1), ?_⟩
              refine r_pbool rfl rfl rfl ?_
              refine r_pickT (v := .bool _) rfl rfl rfl rfl ?_
              refine r_nil ?_
              refine w_cond rfl (fun c4 => ?_) (fun c4 => ?_)
              · try simp only [decide_eq_true_eq, decide_eq_false_iff_not, Bool.not_eq_true', Bool.not_eq_false', beq_iff_eq, beq_eq_false_iff_ne, bne_iff_ne, bne_eq_false_iff_eq, ne_eq, Int.not_lt, Int.not_le] at c4
                have hz := incd_zero (show incdR (headH es) n (((1 + q) : Nat) : Int) es[(1 + q) - 1] oth = 0 by simpa using h85)
                have hno : oth ≠ inclN es (1 + q) := by simpa using c4
                refine w_seq ?_
                refine w_region ?_
                refine l_pslice rfl rfl ?_
                refine l_pint rfl rfl ?_
                refine l_pslice rfl rfl ?_
                refine l_pint rfl rfl ?_
                first | refine l_v rfl (q_subN (a := (1 + q)) (b := 1) rfl rfl rfl ⟨by omega, by omega⟩) ?_ | refine l_pint rfl rfl ?_
                refine l_v rfl (q_indexSliceE ((1 + q) - 1) rfl el_22 rfl hae rfl rfl (by omega)) ?_
                refine l_v rfl (q_loadN (vs := es[(1 + q) - 1].cells) rfl ag_28 rfl rfl (ent_at2 hae (hr.use H 6 rfl) hpi)) ?_
                refine l_pslice rfl rfl ?_
                refine b_call rfl cb_33 rfl (climbs_ok n (path := oth) (e := es[(1 + q) - 1]) H (hr.up 6 rfl) hl hc hok (hok _ (List.getElem_mem hpi)) hoo (RdIn.row 0 rfl) hz.1 rfl (by omega) rfl (by omega) ⟨by omega, by omega⟩) (fun v w hv => ?_)
                obtain ⟨mt, rfl, hlaw, H⟩ := hv
                obtain rfl : mt = true := hlaw hz.2 (.inr hno)
                refine l_ptup rfl rfl ?_
                refine l_pagg rfl rfl ?_
                refine l_pbool rfl rfl ?_
                refine b_alloc rfl ze_24 rfl H (fun b14 w H => ?_)
                have hvl : ((upN (sidesN n (1 + q)) oth (leafH es[(1 + q) - 1]) oth.length).map B).length = 32 := by rw [List.length_map, upN_len (leafH_len _)]
                refine b_store (vs := (upN (sidesN n (1 + q)) oth (leafH es[(1 + q) - 1]) oth.length).map B) rfl sz_24 rfl rfl rfl (by rw [hvl]; rfl) (all1 _) H 0 rfl (by rw [hvl]; rfl) (putL_all (by rw [hvl]; rfl)) (fun w H => ?_)
                refine l_pbool rfl rfl ?_
                refine l_nil ?_
                refine w_seq ?_
                refine w_region ?_
                refine l_pbool rfl rfl ?_
                refine l_pbool rfl rfl ?_
                refine l_nil ?_
                refine w_cond_f rfl ?_
                refine w_skip ?_
                refine ⟨by repeat' first | exact Agr.mix _ _ _ | exact Agr.refl _ _ | refine Agr.inner rfl ?_ | refine Agr.upd rfl ?_ | refine Agr.updL' rfl ?_, ?_⟩
                exact ⟨(), trivial, H.erase 0⟩
              · try simp only [decide_eq_true_eq, decide_eq_false_iff_not, Bool.not_eq_true', Bool.not_eq_false', beq_iff_eq, beq_eq_false_iff_ne, bne_iff_ne, bne_eq_false_iff_eq, ne_eq, Int.not_lt, Int.not_le] at c4
                refine w_skip ?_
                refine ⟨by repeat' first | exact Agr.mix _ _ _ | exact Agr.refl _ _ | refine Agr.inner rfl ?_ | refine Agr.upd rfl ?_ | refine Agr.updL' rfl ?_, ?_⟩
                exact ⟨(), trivial, H⟩
            · try simp only [decide_eq_true_eq, decide_eq_false_iff_not, Bool.not_eq_true', Bool.not_eq_false', beq_iff_eq, beq_eq_false_iff_ne, bne_iff_ne, bne_eq_false_iff_eq, ne_eq, Int.not_lt, Int.not_le] at h85
              refine r_no rfl rfl ?_
              refine r_no rfl rfl ?_
              refine r_do rfl (l_no rfl (l_nil ⟨fun _ _ => (by first | exact H | exact H.drop1 | exact H.drop1.drop1), ?_⟩))
              refine r_no rfl rfl ?_
              refine r_pickF (v := .bool _) rfl rfl rfl rfl ?_
              refine r_nil ?_
              refine w_cond_f rfl ?_
              refine w_skip ?_
              refine ⟨by repeat' first | exact Agr.mix _ _ _ | exact Agr.refl _ _ | refine Agr.inner rfl ?_ | refine Agr.upd rfl ?_ | refine Agr.updL' rfl ?_, ?_⟩
              exact ⟨(), trivial, H⟩
          · rintro _ ρ1 w H
            refine w_seq ?_
            refine w_seq ?_
            refine w_drawT [] [0, 4, 9, 14] [(0, 1), (1, 0), (2, 0), (3, 0), (4, 1), (5, 0), (6, 2), (7, 0), (8, 0), (9, 1), (10, 0), (11, 0), (12, 0), (13, 0), (14, 1), (15, 0), (16, 0)] mixed (by kernel_rfl) (fun _ _ _ h => fin_panic h) H (fun H => ?_)
            refine r_v rfl rfl (fun w hS => q_loadN (vs := (headH es).map B) rfl ag_24 rfl (by simp [headH_len]) (hS.cells 2 rfl)) ?_
            refine r_pslice rfl rfl rfl ?_
            refine r_w rfl rfl (fun w => q_lenSlice rfl el_22 rfl) ?_
            refine r_pint rfl rfl rfl ?_
            refine r_v rfl rfl (fun w hS => q_loadN (vs := e.cells) rfl ag_28 rfl rfl (hS.cells 3 rfl)) ?_
            refine r_pslice rfl rfl rfl ?_
            refine r_do rfl ?_
            refine b_call rfl cb_24 rfl (Included_ok (path := pth) H (headH_len _) (n : Int) (((1 + q) : Nat) : Int) e hva hpp (hpr2.up 1 rfl) (by omega) (by omega)) (fun v w hv => ?_)
            obtain ⟨rfl, H⟩ := hv
            refine l_nil ⟨fun _ _ => (by first | exact H | exact H.drop1 | exact H.drop1.drop1 | exact H.drop1.drop1.drop1), ?_⟩
            refine r_pbool rfl rfl rfl ?_
            refine r_pbool rfl rfl rfl ?_
            refine r_split 113 rfl (fun h113 => ?_) (fun h113 => ?_)
            · try simp only [decide_eq_true_eq, decide_eq_false_iff_not, Bool.not_eq_true', Bool.not_eq_false', beq_iff_eq, beq_eq_false_iff_ne, bne_iff_ne, bne_eq_false_iff_eq, ne_eq, Int.not_lt, Int.not_le] at h113
              refine r_no1 rfl rfl ?_
              refine r_no rfl rfl ?_
              refine r_no rfl rfl ?_
              refine r_no rfl rfl ?_
              refine r_no rfl rfl ?_
              refine r_no1 rfl rfl ?_
              refine r_no rfl rfl ?_
              refine r_pickT (v := .bool _) rfl rfl rfl rfl ?_
              refine r_nil ?_
              refine w_cond_t rfl ?_
              refine w_seq ?_
              refine w_region ?_
              refine l_pbool rfl rfl ?_
              refine l_nil ?_
              refine w_ret ?_
              refine fin1 (v := .bool _) rfl ?_
              exact ⟨rfl, _, H⟩
            · try simp only [decide_eq_true_eq, decide_eq_false_iff_not, Bool.not_eq_true', Bool.not_eq_false', beq_iff_eq, beq_eq_false_iff_ne, bne_iff_ne, bne_eq_false_iff_eq, ne_eq, Int.not_lt, Int.not_le] at h113
              refine r_v rfl rfl (fun w hS => q_loadN (vs := e.cells) rfl ag_28 rfl rfl (hS.cells 3 rfl)) ?_
              refine r_pslice rfl rfl rfl ?_
              refine r_pint rfl rfl rfl ?_
              first | refine r_w rfl rfl (fun w => q_subN (a := (1 + q)) (b := 1) rfl rfl rfl ⟨by omega, by omega⟩) ?_ | refine r_pint rfl rfl rfl ?_
              refine r_w rfl rfl (fun w => q_indexSliceE ((1 + q) - 1) rfl el_22 rfl hae rfl rfl (by omega)) ?_
              refine r_v rfl rfl (fun w hS => q_loadN (vs := es[(1 + q) - 1].cells) rfl ag_28 rfl rfl (ent_at2 hae (hr.use hS 6 rfl) hpi)) ?_
              refine r_w rfl rfl (fun w => q_eqlEnt rfl rfl rfl) ?_
              refine r_pickF (v := .bool _) rfl rfl rfl rfl ?_
              refine r_nil ?_
              refine w_cond rfl (fun c5 => ?_) (fun c5 => ?_)
              · try simp only [decide_eq_true_eq, decide_eq_false_iff_not, Bool.not_eq_true', Bool.not_eq_false', beq_iff_eq, beq_eq_false_iff_ne, bne_iff_ne, bne_eq_false_iff_eq, ne_eq, Int.not_lt, Int.not_le] at c5
                refine w_seq ?_
                refine w_region ?_
                refine l_pbool rfl rfl ?_
                refine l_nil ?_
                refine w_ret ?_
                refine fin1 (v := .bool _) rfl ?_
                exact ⟨rfl, _, H⟩
              · try simp only [decide_eq_true_eq, decide_eq_false_iff_not, Bool.not_eq_true', Bool.not_eq_false', beq_iff_eq, beq_eq_false_iff_ne, bne_iff_ne, bne_eq_false_iff_eq, ne_eq, Int.not_lt, Int.not_le] at c5
                have hz := incd_zero (show incdR (headH es) n (((1 + q) : Nat) : Int) e pth = 0 by simpa using h113)
                have hne : es[(1 + q) - 1]? ≠ some e := ent_ne hpi (by
                  intro hc
                  rw [hc, entEq_iff.2 rfl] at c5
                  exact absurd c5 (by decide))
                refine w_skip ?_
                refine w_seq ?_
                refine w_region ?_
                refine l_pslice rfl rfl ?_
                refine l_pint rfl rfl ?_
                refine l_v rfl (q_loadN (vs := e.cells) rfl ag_28 rfl rfl (H.cells 3 rfl)) ?_
                refine l_pslice rfl rfl ?_
                refine b_call rfl cb_33 rfl (climbs_ok n (path := pth) (e := e) H (hr.up 6 rfl) hl hc hok hva hpp (hpr2.up 1 rfl) hz.1 rfl (by omega) rfl (by omega) ⟨by omega, by omega⟩) (fun v w hv => ?_)
                obtain ⟨mt, rfl, hlaw, H⟩ := hv
                obtain rfl : mt = true := hlaw hz.2 (.inl hne)
                refine l_ptup rfl rfl ?_
                refine l_pagg rfl rfl ?_
                refine l_pbool rfl rfl ?_
                refine b_alloc rfl ze_24 rfl H (fun b16 w H => ?_)
                have hvl : ((upN (sidesN n (1 + q)) pth (leafH e) pth.length).map B).length = 32 := by rw [List.length_map, upN_len (leafH_len _)]
                refine b_store (vs := (upN (sidesN n (1 + q)) pth (leafH e) pth.length).map B) rfl sz_24 rfl rfl rfl (by rw [hvl]; rfl) (all1 _) H 0 rfl (by rw [hvl]; rfl) (putL_all (by rw [hvl]; rfl)) (fun w H => ?_)
                refine l_pbool rfl rfl ?_
                refine l_nil ?_
                refine w_seq ?_
                refine w_region ?_
                refine l_pbool rfl rfl ?_
                refine l_pbool rfl rfl ?_
                refine l_nil ?_
                refine w_ret ?_
                refine fin1 (v := .bool _) rfl ?_
                exact ⟨rfl, _, H⟩

end Go.Proofs.Ytcmmhpkgjcepdaa
