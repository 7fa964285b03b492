/- The tree's Inclusion and Included do what their contracts say. -/
import Derived.Test.YtcmmhpkgjcepdaaTre5
namespace Go.Proofs.Ytcmmhpkgjcepdaa
open Go.EW
attribute [local irreducible] EW.W EW.L EW.fin block8 outB shaL
set_option linter.unusedVariables false
set_option linter.unusedSimpArgs false
attribute [local irreducible] swp headH leafH nodeH inclN sidesN

/-- Inclusion's answer -/
def incR (es : List Ent) (x : Int) : List (List UInt8) × Int := if x < 1 ∨ x > (es.length : Int) then ([], 61) else (inclN es x.toNat, 0)
/-- what a path comes to -/
def upN (s : List Bool) (path : List (List UInt8)) (h : List UInt8) : Nat → List UInt8
  | 0 => h
  | i + 1 => bif s.getD i false then nodeH (path.getD i []) (upN s path h i) else nodeH (upN s path h i) (path.getD i [])
theorem upN_len {s : List Bool} {path : List (List UInt8)} {h : List UInt8} (hh : h.length = 32) : ∀ i, (upN s path h i).length = 32
  | 0 => hh
  | i + 1 => by
    rw [upN]
    cases s.getD i false with
    | true => exact nodeH_len _ _
    | false => exact nodeH_len _ _
/-- Included's answer -/
def incdR (hd : List UInt8) (size place : Int) (e : Ent) (path : List (List UInt8)) : Int :=
  if size < 1 then 200 else if place < 1 ∨ place > size then 61 else if (sidesN size.toNat place.toNat).length ≠ path.length then 201
  else if upN (sidesN size.toNat place.toNat) path (leafH e) path.length ≠ hd then 202 else 0
theorem sidesN_short {n p : Nat} (h : n ≤ 9223372036854775807) : (sidesN n p).length ≤ 63 := by
  have := tds_short 63 n n p (by omega)
  unfold sidesN
  rw [List.length_reverse]; exact this
theorem sidesN_len {n p : Nat} : (sidesN n p).length ≤ n := by
  have := tds_len n n p (Nat.le_refl _)
  unfold sidesN
  rw [List.length_reverse]; exact this

theorem Inclusion_ok {W w : World} {F : List Seg} {a : Option Addr} {n c : Nat} {es : List Ent} (H : St W w F) (hr : RdIn W F a (entsV es)) (hl : es.length = n) (hnc : n ≤ c) (hok : EntsOk es) (hnb : n ≤ 4398046511000) (x : Int) :
    Ok Try.prog 31 [.slice a n c, .int .i64 x].toArray w (fun r w' => ∃ a' c', r = .tuple #[.slice a' (incR es x).1.length c', .int .i64 (incR es x).2] ∧ St W w' (row 24 32 a' (incR es x).1.length c' (pathV (incR es x).1) :: F)) := by
  refine enter (n := 17) (rs := #[.tmp 4, .tmp 5]) Try.func31 rfl rfl rfl rfl ?_
  refine w_seq ?_
  refine w_region ?_
  refine l_pslice rfl rfl ?_
  refine l_pint rfl rfl ?_
  refine l_nil ?_
  refine w_seq ?_
  refine w_seq ?_
  refine w_region ?_
  refine l_pint rfl rfl ?_
  refine l_pbool rfl rfl ?_
  refine l_pbool rfl rfl ?_
  refine l_split 8 rfl (fun h8 => ?_) (fun h8 => ?_)
  · try simp only [decide_eq_true_eq, decide_eq_false_iff_not, Bool.not_eq_true', Bool.not_eq_false', beq_iff_eq, beq_eq_false_iff_ne, bne_iff_ne, bne_eq_false_iff_eq, ne_eq, Int.not_lt, Int.not_le] at h8
    refine l_no rfl ?_
    refine l_no rfl ?_
    refine l_no rfl ?_
    refine l_no rfl ?_
    refine l_pickT (v := .bool _) rfl rfl rfl ?_
    refine l_nil ?_
    refine w_cond_t rfl ?_
    refine w_seq ?_
    refine w_region ?_
    refine l_pslice rfl rfl ?_
    refine l_pint rfl rfl ?_
    refine l_nil ?_
    refine w_ret ?_
    refine fin2 rfl rfl ?_
    have hR : incR es x = ([], 61) := by unfold incR; rw [if_pos (by omega)]
    refine ⟨none, 0, by rw [hR]; rfl, by rw [hR]; exact St.newRow H⟩
  · try simp only [decide_eq_true_eq, decide_eq_false_iff_not, Bool.not_eq_true', Bool.not_eq_false', beq_iff_eq, beq_eq_false_iff_ne, bne_iff_ne, bne_eq_false_iff_eq, ne_eq, Int.not_lt, Int.not_le] at h8
    refine l_pint rfl rfl ?_
    refine l_pslice rfl rfl ?_
    refine l_v rfl (q_lenSlice rfl el_22 rfl) ?_
    refine l_pbool rfl rfl ?_
    refine l_pickF (v := .bool _) rfl rfl rfl ?_
    refine l_nil ?_
    refine w_cond rfl (fun c1 => ?_) (fun c1 => ?_)
    · try simp only [decide_eq_true_eq, decide_eq_false_iff_not, Bool.not_eq_true', Bool.not_eq_false', beq_iff_eq, beq_eq_false_iff_ne, bne_iff_ne, bne_eq_false_iff_eq, ne_eq, Int.not_lt, Int.not_le] at c1
      refine w_seq ?_
      refine w_region ?_
      refine l_pslice rfl rfl ?_
      refine l_pint rfl rfl ?_
      refine l_nil ?_
      refine w_ret ?_
      refine fin2 rfl rfl ?_
      have hR : incR es x = ([], 61) := by unfold incR; rw [if_pos (by omega)]
      refine ⟨none, 0, by rw [hR]; rfl, by rw [hR]; exact St.newRow H⟩
    · try simp only [decide_eq_true_eq, decide_eq_false_iff_not, Bool.not_eq_true', Bool.not_eq_false', beq_iff_eq, beq_eq_false_iff_ne, bne_iff_ne, bne_eq_false_iff_eq, ne_eq, Int.not_lt, Int.not_le] at c1
      obtain ⟨p, rfl⟩ := Int.eq_ofNat_of_zero_le (by omega : 0 ≤ x)
      have hR : incR es (p : Int) = (inclN es p, 0) := by unfold incR; rw [if_neg (by omega), Int.toNat_natCast]
      refine w_skip ?_
      refine w_seq ?_
      refine w_region ?_
      refine l_pslice rfl rfl ?_
      refine l_pint rfl rfl ?_
      refine b_call rfl cb_72 rfl (inclusion_ok n (n := n) (p := p) H hr hl hnc hok rfl ⟨by omega, by omega⟩ hnb) (fun v w hv => ?_)
      obtain ⟨a1, c1', rfl, H⟩ := hv
      refine l_pslice rfl rfl ?_
      refine l_pint rfl rfl ?_
      refine l_nil ?_
      refine w_ret ?_
      refine fin2 rfl rfl ?_
      refine ⟨a1, c1', by rw [hR]; rfl, by rw [hR]; exact H⟩

set_option maxRecDepth 8000 in
set_option maxHeartbeats 1000000 in
theorem Included_ok {W w : World} {F : List Seg} (H : St W w F) {hd : List UInt8} (hhd : hd.length = 32) (sz pl : Int) (e : Ent) (hva : e.va.size ≤ 140737488351232) {pa : Option Addr} {pc : Nat} {path : List (List UInt8)} (hpo : PathOk path) (hpr : RdIn W F pa (pathV path)) (hpl : path.length ≤ 140737488355328) (hszb : sz ≤ 9223372036854775807) :
    Ok Try.prog 24 [.agg (hd.map B).toArray, .int .i64 sz, .int .i64 pl, .agg e.cells.toArray, .slice pa path.length pc].toArray w (fun r w' => r = .int .i64 (incdR hd sz pl e path) ∧ St W w' F) := by
  refine enter (n := 58) (rs := #[.tmp 10]) Try.func24 rfl rfl rfl rfl ?_
  refine w_seq ?_
  refine w_region ?_
  refine b_box rfl rfl rfl H (fun b5 w H => ?_)
  refine b_box rfl rfl rfl H (fun b8 w H => ?_)
  refine l_pint rfl rfl ?_
  refine l_nil ?_
  refine w_seq ?_
  refine w_seq ?_
  refine w_region ?_
  refine l_pint rfl rfl ?_
  refine l_pbool rfl rfl ?_
  refine l_nil ?_
  refine w_cond rfl (fun c1 => ?_) (fun c1 => ?_)
  · try simp only [decide_eq_true_eq, decide_eq_false_iff_not, Bool.not_eq_true', Bool.not_eq_false', beq_iff_eq, beq_eq_false_iff_ne, bne_iff_ne, bne_eq_false_iff_eq, ne_eq, Int.not_lt, Int.not_le] at c1
    refine w_seq ?_
    refine w_region ?_
    refine l_pint rfl rfl ?_
    refine l_nil ?_
    refine w_ret ?_
    refine fin1 (v := .int _ _) rfl ?_
    refine ⟨?_, (H.erase 0).erase 0⟩
    unfold incdR; rw [if_pos (by omega)]
  · try simp only [decide_eq_true_eq, decide_eq_false_iff_not, Bool.not_eq_true', Bool.not_eq_false', beq_iff_eq, beq_eq_false_iff_ne, bne_iff_ne, bne_eq_false_iff_eq, ne_eq, Int.not_lt, Int.not_le] at c1
    obtain ⟨size, rfl⟩ := Int.eq_ofNat_of_zero_le (by omega : 0 ≤ sz)
    refine w_skip ?_
    refine w_seq ?_
    refine w_seq ?_
    refine w_region ?_
    refine l_pint rfl rfl ?_
    refine l_pbool rfl rfl ?_
    refine l_pbool rfl rfl ?_
    refine l_split 18 rfl (fun h18 => ?_) (fun h18 => ?_)
    · try simp only [decide_eq_true_eq, decide_eq_false_iff_not, Bool.not_eq_true', Bool.not_eq_false', beq_iff_eq, beq_eq_false_iff_ne, bne_iff_ne, bne_eq_false_iff_eq, ne_eq, Int.not_lt, Int.not_le] at h18
      refine l_no rfl ?_
      refine l_no rfl ?_
      refine l_no rfl ?_
      refine l_pickT (v := .bool _) rfl rfl rfl ?_
      refine l_nil ?_
      refine w_cond_t rfl ?_
      refine w_seq ?_
      refine w_region ?_
      refine l_pint rfl rfl ?_
      refine l_nil ?_
      refine w_ret ?_
      refine fin1 (v := .int _ _) rfl ?_
      refine ⟨?_, (H.erase 0).erase 0⟩
      unfold incdR; rw [if_neg (by omega), if_pos (by omega)]
    · try simp only [decide_eq_true_eq, decide_eq_false_iff_not, Bool.not_eq_true', Bool.not_eq_false', beq_iff_eq, beq_eq_false_iff_ne, bne_iff_ne, bne_eq_false_iff_eq, ne_eq, Int.not_lt, Int.not_le] at h18
      refine l_pint rfl rfl ?_
      refine l_pint rfl rfl ?_
      refine l_pbool rfl rfl ?_
      refine l_pickF (v := .bool _) rfl rfl rfl ?_
      refine l_nil ?_
      refine w_cond rfl (fun c2 => ?_) (fun c2 => ?_)
      · try simp only [decide_eq_true_eq, decide_eq_false_iff_not, Bool.not_eq_true', Bool.not_eq_false', beq_iff_eq, beq_eq_false_iff_ne, bne_iff_ne, bne_eq_false_iff_eq, ne_eq, Int.not_lt, Int.not_le] at c2
        refine w_seq ?_
        refine w_region ?_
        refine l_pint rfl rfl ?_
        refine l_nil ?_
        refine w_ret ?_
        refine fin1 (v := .int _ _) rfl ?_
        refine ⟨?_, (H.erase 0).erase 0⟩
        unfold incdR; rw [if_neg (by omega), if_pos (by omega)]
      · try simp only [decide_eq_true_eq, decide_eq_false_iff_not, Bool.not_eq_true', Bool.not_eq_false', beq_iff_eq, beq_eq_false_iff_ne, bne_iff_ne, bne_eq_false_iff_eq, ne_eq, Int.not_lt, Int.not_le] at c2
        obtain ⟨place, rfl⟩ := Int.eq_ofNat_of_zero_le (by omega : 0 ≤ pl)
        have hsl := sidesN_short (n := size) (p := place) (by omega)
        have hR1 : incdR hd (size : Int) (place : Int) e path = if (sidesN size place).length ≠ path.length then 201 else if upN (sidesN size place) path (leafH e) path.length ≠ hd then 202 else 0 := by unfold incdR; rw [if_neg (by omega), if_neg (by omega), Int.toNat_natCast, Int.toNat_natCast]
        refine w_skip ?_
        refine w_seq ?_
        refine w_region ?_
        refine l_pint rfl rfl ?_
        refine l_pint rfl rfl ?_
        refine b_call rfl cb_65 rfl (sides_ok H (n := size) (p := place) (by omega) (by omega)) (fun v w hv => ?_)
        obtain ⟨as_, cs_, rfl, H⟩ := hv
        refine l_pslice rfl rfl ?_
        refine l_nil ?_
        refine w_seq ?_
        refine w_seq ?_
        refine w_region ?_
        refine l_pslice rfl rfl ?_
        refine l_v rfl (q_lenSlice rfl el_108 rfl) ?_
        refine l_pslice rfl rfl ?_
        refine l_v rfl (q_lenSlice rfl el_42 rfl) ?_
        refine l_pbool rfl rfl ?_
        refine l_nil ?_
        refine w_cond rfl (fun c3 => ?_) (fun c3 => ?_)
        · try simp only [decide_eq_true_eq, decide_eq_false_iff_not, Bool.not_eq_true', Bool.not_eq_false', beq_iff_eq, beq_eq_false_iff_ne, bne_iff_ne, bne_eq_false_iff_eq, ne_eq, Int.not_lt, Int.not_le] at c3
          refine w_seq ?_
          refine w_region ?_
          refine l_pint rfl rfl ?_
          refine l_nil ?_
          refine w_ret ?_
          refine fin1 (v := .int _ _) rfl ?_
          refine ⟨?_, ((H.erase 0).erase 0).erase 0⟩
          rw [hR1, if_pos (by omega)]
        · try simp only [decide_eq_true_eq, decide_eq_false_iff_not, Bool.not_eq_true', Bool.not_eq_false', beq_iff_eq, beq_eq_false_iff_ne, bne_iff_ne, bne_eq_false_iff_eq, ne_eq, Int.not_lt, Int.not_le] at c3
          rw [if_neg (by omega)] at hR1
          refine w_skip ?_
          refine w_seq ?_
          refine w_region ?_
          refine l_v rfl (q_loadN (vs := e.cells) rfl ag_28 rfl rfl (H.cells 1 rfl)) ?_
          refine b_call rfl cb_19 rfl (Leaf_ok H e hva) (fun v w hv => ?_)
          obtain ⟨rfl, H⟩ := hv
          refine b_alloc rfl ze_24 rfl H (fun b12 w H => ?_)
          refine b_store (vs := (leafH e).map B) rfl sz_24 rfl rfl rfl (by simp [leafH_len]) (all1 _) H 0 rfl (by simp [leafH_len]) (putL_all (by simp [leafH_len])) (fun w H => ?_)
          refine l_nil ?_
          refine w_seq ?_
          refine w_seq ?_
          refine w_region ?_
          refine l_pslice rfl rfl ?_
          refine l_v rfl (q_lenSlice rfl el_42 rfl) ?_
          refine l_pint rfl rfl ?_
          refine l_nil ?_
          refine w_block ?_
          refine w_loopG (G := Nat) [13, 35, 36, 37, 38, 39, 40, 41, 42, 43, 44, 45, 46, 47, 48, 49, 50, 51, 52, 53, 54] (fun i => [(35, .int .i64 ((i : Nat) : Int))]) (fun m i w => m + i = path.length ∧ St W w (blk b12 ((upN (sidesN size place) path (leafH e) i).map B) 24 :: row 4 1 as_ (sidesN size place).length cs_ ((sidesN size place).map Bo) :: blk b8 e.cells 28 :: blk b5 (hd.map B) 24 :: F)) (fun _ => rfl) ?_ ?_
          · exact ⟨path.length, 0, ⟨rfl, trivial⟩, by omega, H⟩
          · rintro m i ρ1 w ⟨hmi, H⟩
            refine w_seq ?_
            refine w_region ?_
            refine l_pbool rfl rfl ?_
            refine l_nil ?_
            refine w_seq ?_
            refine w_cond rfl (fun c4 => ?_) (fun c4 => ?_)
            · try simp only [decide_eq_true_eq, decide_eq_false_iff_not, Bool.not_eq_true', Bool.not_eq_false', beq_iff_eq, beq_eq_false_iff_ne, bne_iff_ne, bne_eq_false_iff_eq, ne_eq, Int.not_lt, Int.not_le] at c4
              have hi' : i < path.length := by omega
              obtain ⟨bs_, has_, hcs_⟩ := row_addr (k := i) H (i := 1) rfl (get_Bo (by omega))
              obtain ⟨bp, op, hap, _⟩ := path_cells hpo (hpr.use H 4 rfl) hi'
              have hgp : path.getD i [] = path[i] := by simp [List.getD, hi']
              refine w_skip ?_
              refine w_seq ?_
              refine w_block ?_
              refine w_seq ?_
              refine w_region ?_
              refine l_pint rfl rfl ?_
              refine l_pint rfl rfl ?_
              refine l_nil ?_
              refine w_seq ?_
              refine w_region ?_
              refine l_pslice rfl rfl ?_
              refine l_pint rfl rfl ?_
              refine l_v rfl (q_indexSliceE i rfl el_108 rfl has_ rfl rfl (by omega)) ?_
              refine l_v rfl (q_load1 rfl c1_4 rfl hcs_) ?_
              refine l_nil ?_
              refine w_cond rfl (fun c5 => ?_) (fun c5 => ?_)
              · try simp only [decide_eq_true_eq, decide_eq_false_iff_not, Bool.not_eq_true', Bool.not_eq_false', beq_iff_eq, beq_eq_false_iff_ne, bne_iff_ne, bne_eq_false_iff_eq, ne_eq, Int.not_lt, Int.not_le] at c5
                have hup : upN (sidesN size place) path (leafH e) (i + 1) = nodeH path[i] (upN (sidesN size place) path (leafH e) i) := by rw [upN, show (sidesN size place).getD i false = true from c5, hgp]; rfl
                refine w_drawT [5, 6] [3, 4] [(0, 0), (1, 0), (2, 0), (3, 1), (4, 1), (5, 2), (6, 2)] mixed (by kernel_rfl) (fun _ _ _ h => fin_panic h) H (fun H => ?_)
                refine r_pslice rfl rfl rfl ?_
                refine r_pint rfl rfl rfl ?_
                refine r_w rfl rfl (fun w => q_indexSliceE i rfl el_42 rfl hap rfl rfl (by omega)) ?_
                refine r_v rfl rfl (fun w hS => q_loadN (vs := path[i].map B) rfl ag_24 rfl (by simp [hpo _ (List.getElem_mem hi')]) (path_at2 hap hpo (hpr.use hS 4 rfl) hi')) ?_
                refine r_v rfl rfl (fun w hS => q_loadN (vs := (upN (sidesN size place) path (leafH e) i).map B) rfl ag_24 rfl (by simp [upN_len (leafH_len e)]) (hS.cells 0 rfl)) ?_
                refine r_do rfl ?_
                refine b_call rfl cb_17 rfl (Node_ok H (hpo _ (List.getElem_mem hi')) (upN_len (leafH_len _) i)) (fun v w hv => ?_)
                obtain ⟨rfl, H⟩ := hv
                refine l_nil ⟨(fun h => nomatch h), ?_⟩
                refine r_do rfl ?_
                refine b_store (vs := (nodeH path[i] (upN (sidesN size place) path (leafH e) i)).map B) rfl sz_24 rfl rfl rfl (by simp [nodeH_len]) (all1 _) H 0 rfl (by simp [nodeH_len, upN_len (leafH_len e)]) (putL_all (by simp [nodeH_len, upN_len (leafH_len e)])) (fun w H => ?_)
                refine l_nil ⟨(fun h => nomatch h), ?_⟩
                refine r_nil ?_
                refine w_region ?_
                first | refine l_v rfl (q_add rfl rfl rfl (by simp only [inK]; omega)) ?_ | refine l_pint rfl rfl ?_
                refine l_pint rfl rfl ?_
                refine l_nil ?_
                refine ⟨by repeat' first | exact Agr.mix _ _ _ | exact Agr.refl _ _ | refine Agr.inner rfl ?_ | refine Agr.upd rfl ?_ | refine Agr.updL' rfl ?_, ?_⟩
                exact ⟨m - 1, i + 1, by omega, ⟨by exact congrArg (Value.int IntKind.i64) (Int.natCast_succ i).symm, trivial⟩, by omega, by rw [hup]; exact H⟩
              · try simp only [decide_eq_true_eq, decide_eq_false_iff_not, Bool.not_eq_true', Bool.not_eq_false', beq_iff_eq, beq_eq_false_iff_ne, bne_iff_ne, bne_eq_false_iff_eq, ne_eq, Int.not_lt, Int.not_le] at c5
                have hup : upN (sidesN size place) path (leafH e) (i + 1) = nodeH (upN (sidesN size place) path (leafH e) i) path[i] := by rw [upN, show (sidesN size place).getD i false = false from c5, hgp]; rfl
                refine w_drawT [5, 6] [0, 4] [(0, 1), (1, 0), (2, 0), (3, 0), (4, 1), (5, 2), (6, 2)] mixed (by kernel_rfl) (fun _ _ _ h => fin_panic h) H (fun H => ?_)
                refine r_v rfl rfl (fun w hS => q_loadN (vs := (upN (sidesN size place) path (leafH e) i).map B) rfl ag_24 rfl (by simp [upN_len (leafH_len e)]) (hS.cells 0 rfl)) ?_
                refine r_pslice rfl rfl rfl ?_
                refine r_pint rfl rfl rfl ?_
                refine r_w rfl rfl (fun w => q_indexSliceE i rfl el_42 rfl hap rfl rfl (by omega)) ?_
                refine r_v rfl rfl (fun w hS => q_loadN (vs := path[i].map B) rfl ag_24 rfl (by simp [hpo _ (List.getElem_mem hi')]) (path_at2 hap hpo (hpr.use hS 4 rfl) hi')) ?_
                refine r_do rfl ?_
                refine b_call rfl cb_17 rfl (Node_ok H (upN_len (leafH_len _) i) (hpo _ (List.getElem_mem hi'))) (fun v w hv => ?_)
                obtain ⟨rfl, H⟩ := hv
                refine l_nil ⟨(fun h => nomatch h), ?_⟩
                refine r_do rfl ?_
                refine b_store (vs := (nodeH (upN (sidesN size place) path (leafH e) i) path[i]).map B) rfl sz_24 rfl rfl rfl (by simp [nodeH_len]) (all1 _) H 0 rfl (by simp [nodeH_len, upN_len (leafH_len e)]) (putL_all (by simp [nodeH_len, upN_len (leafH_len e)])) (fun w H => ?_)
                refine l_nil ⟨(fun h => nomatch h), ?_⟩
                refine r_nil ?_
                refine w_region ?_
                first | refine l_v rfl (q_add rfl rfl rfl (by simp only [inK]; omega)) ?_ | refine l_pint rfl rfl ?_
                refine l_pint rfl rfl ?_
                refine l_nil ?_
                refine ⟨by repeat' first | exact Agr.mix _ _ _ | exact Agr.refl _ _ | refine Agr.inner rfl ?_ | refine Agr.upd rfl ?_ | refine Agr.updL' rfl ?_, ?_⟩
                exact ⟨m - 1, i + 1, by omega, ⟨by exact congrArg (Value.int IntKind.i64) (Int.natCast_succ i).symm, trivial⟩, by omega, by rw [hup]; exact H⟩
            · try simp only [decide_eq_true_eq, decide_eq_false_iff_not, Bool.not_eq_true', Bool.not_eq_false', beq_iff_eq, beq_eq_false_iff_ne, bne_iff_ne, bne_eq_false_iff_eq, ne_eq, Int.not_lt, Int.not_le] at c4
              have ei : i = path.length := by omega
              subst ei
              refine w_exit ?_
              refine w_seq ?_
              refine w_seq ?_
              refine w_region ?_
              refine l_v rfl (q_loadN (vs := (upN (sidesN size place) path (leafH e) path.length).map B) rfl ag_24 rfl (by simp [upN_len (leafH_len e)]) (H.cells 0 rfl)) ?_
              refine l_v rfl (q_loadN (vs := hd.map B) rfl ag_24 rfl (by simp [hhd]) (H.cells 3 rfl)) ?_
              refine l_v rfl (q_neqHash rfl rfl rfl (upN_len (leafH_len e) _) hhd) ?_
              refine l_nil ?_
              refine w_cond rfl (fun c6 => ?_) (fun c6 => ?_)
              · try simp only [decide_eq_true_eq, decide_eq_false_iff_not, Bool.not_eq_true', Bool.not_eq_false', beq_iff_eq, beq_eq_false_iff_ne, bne_iff_ne, bne_eq_false_iff_eq, ne_eq, Int.not_lt, Int.not_le] at c6
                refine w_seq ?_
                refine w_region ?_
                refine l_pint rfl rfl ?_
                refine l_nil ?_
                refine w_ret ?_
                refine fin1 (v := .int _ _) rfl ?_
                refine ⟨?_, (((H.erase 0).erase 0).erase 0).erase 0⟩
                rw [hR1, if_pos (by simpa using c6)]
              · try simp only [decide_eq_true_eq, decide_eq_false_iff_not, Bool.not_eq_true', Bool.not_eq_false', beq_iff_eq, beq_eq_false_iff_ne, bne_iff_ne, bne_eq_false_iff_eq, ne_eq, Int.not_lt, Int.not_le] at c6
                refine w_skip ?_
                refine w_seq ?_
                refine w_region ?_
                refine l_pint rfl rfl ?_
                refine l_nil ?_
                refine w_ret ?_
                refine fin1 (v := .int _ _) rfl ?_
                refine ⟨?_, (((H.erase 0).erase 0).erase 0).erase 0⟩
                rw [hR1, if_neg (by simpa using c6)]

end Go.Proofs.Ytcmmhpkgjcepdaa
